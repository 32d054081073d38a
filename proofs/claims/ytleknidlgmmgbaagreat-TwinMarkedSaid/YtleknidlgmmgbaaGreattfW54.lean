/- The reference's Log. -/
import Derived.Test.YtleknidlgmmgbaaGreattfW53
import Derived.Test.YtleknidlgmmgbaaGreattfW31
import Derived.Test.YtleknidlgmmgbaaGreattfW8
import Derived.Test.YtleknidlgmmgbaaGreattfW25
import Derived.Test.YtleknidlgmmgbaaGreattfG14
set_option linter.all false
namespace Go.Proofs.YtleknidlgmmgbaaGreat

open Go.RowKit


/-- what Log answers -/
def logR (s : St4) (fs : List Flt) (every most : Int) : List Mrk × Int :=
  if askErr12 s fs most ≠ 0 then ([], askErr12 s fs most) else if inI every 1 1000 = false then ([], 7) else (logL s fs every.toNat most.toNat, 0)
theorem logR_bad {s : St4} {fs : List Flt} {every most ea : Int} (h : askErr12 s fs most = ea) (he : ea ≠ 0) : logR s fs every most = ([], ea) := by unfold logR; rw [h, if_pos he]
theorem logR_bad2 {s : St4} {fs : List Flt} {every most : Int} (h : askErr12 s fs most = 0) (he : inI every 1 1000 = false) : logR s fs every most = ([], 7) := by unfold logR; rw [h, if_neg (by decide), if_pos he]
theorem logR_ok {s : St4} {fs : List Flt} {every most : Nat} (h : askErr12 s fs most = 0) (he : inI every 1 1000 = true) : logR s fs every most = (logL s fs every most, 0) := by
  unfold logR; rw [h, if_neg (by decide), if_neg (by rw [he]; decide), Int.toNat_natCast, Int.toNat_natCast]
def logU (s : St4) (fs : List Flt) (every most i : Nat) : List Mrk := (List.range i).map (markI s fs every most)
theorem logU_succ {s : St4} {fs : List Flt} {every most i : Nat} {s2 : St4} (h : run12 s fs (nn every most (i + 1)) = s2) : logU s fs every most (i + 1) = logU s fs every most i ++ [⟨(nn every most (i + 1) : Int), s2.pc, sealI' s2⟩] := by
  unfold logU; rw [List.range_succ, List.map_append]; subst h; rfl
theorem logU_len (s : St4) (fs : List Flt) (every most i : Nat) : (logU s fs every most i).length = i := by simp [logU]
theorem info_mrk : (Tryz.prog.info? 85).map (fun i => (i.zero, i.size, i.bytes)) = some (some (.agg #[.int .i64 0, .int .i64 0, .int .i64 0]), 3, 24) := by kernel_rfl
theorem mrk_one (x : Mrk) : ∀ u ∈ Mrk.cs x, u.oneCell' = true := by intro u hu; simp [Mrk.cs] at hu; rcases hu with h | h | h <;> subst h <;> rfl
theorem RdSt.grown {w w' : World} {s : St4} {A : SA} {v : Value} (h : RdSt w s A) (hG : w.grownBy w' v.ownBlock) (hv : ∀ k, v.ownBlock = some k → A.free s k) : RdSt w' s A :=
  ⟨Rd.grown h.st hG (fun hn b hb e => (hv _ e).1 hn b hb rfl), Rd.grown h.tp hG (fun hn b hb e => (hv _ e).2.1 hn b hb rfl), Rd.grown h.pr hG (fun hn b hb e => (hv _ e).2.2 hn b hb rfl)⟩

end Go.Proofs.YtleknidlgmmgbaaGreat
