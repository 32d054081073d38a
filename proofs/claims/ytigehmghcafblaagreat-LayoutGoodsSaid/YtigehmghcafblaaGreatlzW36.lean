/- layout: the examples' values. -/
import Derived.Test.YtigehmghcafblaaGreatlzW35
set_option linter.all false
namespace Go.Proofs.YtigehmghcafblaaGreat

section
set_option linter.all false
set_option maxRecDepth 100000
open Go.RowKit

/-- the task of the examples -/
def tskL (op : Int) (bo bq bp : Nat) : TD := ⟨[⟨op, 0, 1, 1⟩, ⟨5, 1, 0, 1⟩], 2, 1, [⟨[0, 1, 0], 10, some ⟨bp, 0, none⟩, 3⟩], some ⟨bo, 0, none⟩, 2, some ⟨bq, 0, none⟩, 1⟩
set_option maxHeartbeats 4000000 in
theorem ex_chk (bo bq bp : Nat) : chkL (tskL 2 bo bq bp) = (0, 0, 0) := by kernel_rfl
theorem ex_chk4 (bo bq bp : Nat) : chkL (tskL 4 bo bq bp) = (0, 0, 0) := by kernel_rfl
theorem ex_cost (bo bq bp : Nat) : costR (tskL 2 bo bq bp) [0, 3, 2, 1] = (480, 0) := by kernel_rfl
theorem ex_cost2 (bo bq bp : Nat) : costR (tskL 2 bo bq bp) [0, 3, 1, 2] = (320, 0) := by kernel_rfl
theorem ex_cost0 (bo bq bp : Nat) : costR (tskL 2 bo bq bp) [] = (0, 3) := by kernel_rfl
theorem ex_bound4 (bo bq bp : Nat) : boundL (tskL 4 bo bq bp) = [⟨0, 0, 6⟩, ⟨0, 2, 5⟩, ⟨0, 2, 3⟩, ⟨0, 3, 5⟩] := by kernel_rfl
theorem ex_boundN4 (bo bq bp : Nat) : boundN (tskL 4 bo bq bp) = 480 := by kernel_rfl
theorem ex_bound2 (bo bq bp : Nat) : boundL (tskL 2 bo bq bp) = [⟨0, 0, 5⟩, ⟨0, 2, 4⟩] := by kernel_rfl
theorem ex_boundN2 (bo bq bp : Nat) : boundN (tskL 2 bo bq bp) = 320 := by kernel_rfl
theorem ex_acc1 (bo bq bp : Nat) : accR (tskL 2 bo bq bp) [⟨0, 2, 4⟩] = (190, 0) := by kernel_rfl
theorem ex_acc2 (bo bq bp : Nat) : accR (tskL 2 bo bq bp) [⟨0, 0, 5⟩] = (160, 0) := by kernel_rfl
theorem ex_acc3 (bo bq bp : Nat) : (accR (tskL 2 bo bq bp) [⟨0, 0, 4⟩]).2 = 2 := by kernel_rfl
theorem ex_acc4 (bo bq bp : Nat) : (accR (tskL 2 bo bq bp) [⟨0, 0, 5⟩, ⟨0, 0, 5⟩]).2 = 160 := by kernel_rfl
theorem ex_good (bo bq bp : Nat) : goodL (tskL 2 bo bq bp) = [0, 3, 1, 2] := by kernel_rfl
theorem ex_bestE (bo bq bp : Nat) : bestEr (tskL 2 bo bq bp) = 0 := by kernel_rfl
theorem ex_bestE4 (bo bq bp : Nat) : bestEr (tskL 4 bo bq bp) = 0 := by kernel_rfl
theorem ex_best (bo bq bp : Nat) : bestL (tskL 2 bo bq bp) = [0, 1, 2, 3] := by kernel_rfl
theorem ex_best4 (bo bq bp : Nat) : bestL (tskL 4 bo bq bp) = [0, 1, 2, 3] := by kernel_rfl
theorem ex_layF (bo bq bp : Nat) : layF (tskL 2 bo bq bp) [0, 3, 1, 2] [5, 7] = 0 := by kernel_rfl
theorem ex_lay (bo bq bp : Nat) : (layW (tskL 2 bo bq bp) [0, 3, 1, 2] [5, 7]).take 5 = [4210947, 5, 7, 10518531, 0] := by kernel_rfl
end


end Go.Proofs.YtigehmghcafblaaGreat
