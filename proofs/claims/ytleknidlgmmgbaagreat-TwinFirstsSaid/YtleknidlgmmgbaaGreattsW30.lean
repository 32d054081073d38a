/- The program: stretches. -/
import Derived.Test.YtleknidlgmmgbaaGreattsW21
import Derived.Test.YtleknidlgmmgbaaGreattsG13
import Derived.Test.YtleknidlgmmgbaaGreattsCZ
set_option linter.all false
namespace Go.Proofs.YtleknidlgmmgbaaGreat

open Go.RowKit

set_option maxRecDepth 100000 in
set_option maxHeartbeats 1000000 in
theorem stretches_any (M : Nat) (every most : Int) (w : World) :
    Calls Tryz.prog 45 #[.pointer (some ⟨M, 0, none⟩), .int .i64 every, .int .i64 most] w (fun e w' => ∃ X Y Z, e = .returned (.func (.func 80) #[] #[.pointer (some ⟨X, 0, none⟩), .pointer (some ⟨Y, 0, none⟩), .pointer (some ⟨Z, 0, none⟩)]) ∧ Cells w' X [.pointer (some ⟨M, 0, none⟩)] ∧ Cells w' Y [.int .i64 most] ∧ Cells w' Z [.int .i64 every] ∧ (w.heap.size ≤ X ∧ w.heap.size ≤ Y ∧ w.heap.size ≤ Z) ∧ Below w.heap.size w w') := by
 have hmf := hmf
 refine enter_F Tryz.func45 rfl Tryz.ntmps45 (by simp) ?_
 intro s0 hs; have sl0 : s0 0 = .pointer (some ⟨M, 0, none⟩) := hs 0 (by simp); have sl1 : s0 1 = .int .i64 every := hs 1 (by simp); have sl2 : s0 2 = .int .i64 most := hs 2 (by simp); clear hs; have HB := hid (OldB.refl [] w)
 refine nr ?_; intros; refine pa (fun _ B3 hB kb3 hb => ?_); have gb3 := HB.out.gB hB; have eb3 := eB hB; clear hB; replace HB := bE HB hb; clear hb; have qb3 := kb3.1; refine pa (fun _ B4 hB kb4 hb => ?_); have gb4 := HB.out.gB hB; have ob3_b4 := oB qb3 hB; have eb4 := eB hB; clear hB; clear qb3; revert HB; revert kb3; refine uA hb ?_; clear hb; intro kb3 qb3 HB; have qb4 := kb4.1; refine pa (fun _ B5 hB kb5 hb => ?_); have gb5 := HB.out.gB hB; have ob3_b5 := oB qb3 hB; have ob4_b5 := oB qb4 hB; have eb5 := eB hB; clear hB; clear qb3 qb4; revert HB; revert kb4; revert kb3; refine uA hb ?_; clear hb; intro kb3 qb3 kb4 qb4 HB; have qb5 := kb5.1; refine pl ?_; clear sl0 sl1 sl2; refine lx [3,4,5] ?_; intro _ sl3 sl4 sl5
 refine lr ?_; intros; refine P2 ?_; clear sl3 sl4 sl5; refine lx [6] ?_; intro _ sl6; refine ln ?_; intros
 refine ret_F _ (res_t Tryz.results45 ((getD_F (by decide)).trans sl6)) ?_; exact ⟨B3, B5, B4, rfl, kb3, kb5, kb4, ⟨gb3, gb5, gb4⟩, HB.out.toBelow⟩

end Go.Proofs.YtleknidlgmmgbaaGreat
