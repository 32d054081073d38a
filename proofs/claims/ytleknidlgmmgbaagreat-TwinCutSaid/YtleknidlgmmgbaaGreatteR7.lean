/- Lengths of what Run answers. -/
import Derived.Test.YtleknidlgmmgbaaGreatteR2
import Derived.Test.YtleknidlgmmgbaaGreatteW33
set_option linter.all false
namespace Go.Proofs.YtleknidlgmmgbaaGreat

open Go.RowKit


theorem runR_len {s : St4} {fs : List Flt} {most : Int} : LenI (runR s fs most) := by
  unfold runR
  split
  · rename_i h; have h9 := ask12_zero.1 h; exact (after_ok h9.2.2.1 h9.1).len
  · exact ⟨by simp [St4.zero], by simp [St4.zero], by simp [St4.zero]⟩

theorem RdSt.grownX {w w' : World} {s : St4} {A : SA} {v : Value} (h : RdSt w s A) (hG : w.grownBy w' v.ownBlock) (hv : ∀ k, v.ownBlock = some k → A.free s k) : RdSt w' s A :=
  ⟨Rd.grown h.st hG (fun hn b hb e => (hv _ e).1 hn b hb rfl), Rd.grown h.tp hG (fun hn b hb e => (hv _ e).2.1 hn b hb rfl), Rd.grown h.pr hG (fun hn b hb e => (hv _ e).2.2 hn b hb rfl)⟩
theorem oRun_w (s : St4) (A : SA) (n : Int) (R : St4) (w : World) (hR : RdSt w s A) (hL : LenI s) (he : openErr s n = 0) (hr : runO s n = R) :
    Calls Tryz.prog 31 #[.agg #[.slice A.sa s.store.length A.sc, .slice A.ta s.tape.length A.tc, .int .i64 s.taken, .slice A.pa s.printed.length A.pc, .int .i64 s.time, .int .i64 s.pc, .int .i64 s.done, .int .i64 s.why], .int .i64 n] w (fun e w' => ∃ A', e = .returned (.tuple #[.agg #[.slice A'.sa R.store.length A'.sc, .slice A'.ta R.tape.length A'.tc, .int .i64 R.taken, .slice A'.pa R.printed.length A'.pc, .int .i64 R.time, .int .i64 R.pc, .int .i64 R.done, .int .i64 R.why], .int .i64 0]) ∧ RdSt w' R A' ∧ Below w.heap.size w w') := by
  have h := oRun_any s A n w hR hL; rw [he, hr] at h; refine h.mono ?_; rintro e w' ⟨A', h1, h2, _, h4⟩; exact ⟨A', h1, h2, h4⟩

end Go.Proofs.YtleknidlgmmgbaaGreat
