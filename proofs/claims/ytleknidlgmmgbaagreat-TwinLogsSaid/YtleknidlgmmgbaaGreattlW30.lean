/- The program: stretches. -/
import Derived.Test.YtleknidlgmmgbaaGreattlW21
set_option linter.all false
namespace Go.Proofs.YtleknidlgmmgbaaGreat

open Go.RowKit

set_option maxRecDepth 100000 in
set_option maxHeartbeats 1000000 in
theorem stretches_any (M : Nat) (every most : Int) (w : World) :
    Calls Tryz.prog 45 #[.pointer (some ⟨M, 0, none⟩), .int .i64 every, .int .i64 most] w (fun e w' => ∃ X Y Z, e = .returned (.func (.func 80) #[] #[.pointer (some ⟨X, 0, none⟩), .pointer (some ⟨Y, 0, none⟩), .pointer (some ⟨Z, 0, none⟩)]) ∧ Cells w' X [.pointer (some ⟨M, 0, none⟩)] ∧ Cells w' Y [.int .i64 most] ∧ Cells w' Z [.int .i64 every] ∧ (w.heap.size ≤ X ∧ w.heap.size ≤ Y ∧ w.heap.size ≤ Z) ∧ Below w.heap.size w w') := by
 have hmf := hmf
 refine enter_F Tryz.func45 rfl Tryz.ntmps45 (by simp) ?_
 intro s0 hs; have Z0 : s0 0 = .pointer (some ⟨M, 0, none⟩) := hs 0 (by simp); have Z1 : s0 1 = .int .i64 every := hs 1 (by simp); have Z2 : s0 2 = .int .i64 most := hs 2 (by simp); clear hs; have HB := hid (OldB.refl [] w)
 refine nr ?_; intros; refine pa (fun _ B3 hB Y3 hb => ?_); have gb3 := HB.out.gB hB; have eb3 := eB hB; clear hB; replace HB := bE HB hb; clear hb; have Q3 := Y3.1; refine pa (fun _ B4 hB Y4 hb => ?_); have gb4 := HB.out.gB hB; have ob3_b4 := oB Q3 hB; have eb4 := eB hB; clear hB; clear Q3; revert Y3 HB; refine uA hb ?_; clear hb; intro Y3 Q3 HB; have Q4 := Y4.1; refine pa (fun _ B5 hB Y5 hb => ?_); have gb5 := HB.out.gB hB; have ob3_b5 := oB Q3 hB; have ob4_b5 := oB Q4 hB; have eb5 := eB hB; clear hB; clear Q3 Q4; revert Y4 Y3 HB; refine uA hb ?_; clear hb; intro Y4 Q4 Y3 Q3 HB; have Q5 := Y5.1; refine pl ?_; clear Z0 Z1 Z2; refine lx [3,4,5] ?_; intro _ Z3 Z4 Z5
 refine lr ?_; intros; refine P2 ?_; clear Z3 Z4 Z5; refine lx [6] ?_; intro _ Z6; refine ln ?_; intros
 refine ret_F _ (res_t Tryz.results45 ((getD_F (by decide)).trans Z6)) ?_; exact ⟨B3, B5, B4, rfl, Y3, Y5, Y4, ⟨gb3, gb5, gb4⟩, HB.out.toBelow⟩

end Go.Proofs.YtleknidlgmmgbaaGreat
