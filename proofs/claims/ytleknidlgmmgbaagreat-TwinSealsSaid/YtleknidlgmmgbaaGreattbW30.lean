/- The program: stretches. -/
import Derived.Test.YtleknidlgmmgbaaGreattbW21
import Derived.Test.YtleknidlgmmgbaaGreattbG13
import Derived.Test.YtleknidlgmmgbaaGreattbCX
set_option linter.all false
namespace Go.Proofs.YtleknidlgmmgbaaGreat

open Go.RowKit

set_option maxRecDepth 100000 in
set_option maxHeartbeats 1000000 in
theorem stretches_any (M : Nat) (every most : Int) (w : World) :
    Calls Tryz.prog 45 #[.pointer (some ⟨M, 0, none⟩), .int .i64 every, .int .i64 most] w (fun e w' => ∃ X Y Z, e = .returned (.func (.func 80) #[] #[.pointer (some ⟨X, 0, none⟩), .pointer (some ⟨Y, 0, none⟩), .pointer (some ⟨Z, 0, none⟩)]) ∧ Cells w' X [.pointer (some ⟨M, 0, none⟩)] ∧ Cells w' Y [.int .i64 most] ∧ Cells w' Z [.int .i64 every] ∧ (w.heap.size ≤ X ∧ w.heap.size ≤ Y ∧ w.heap.size ≤ Z) ∧ Below w.heap.size w w') := by
 have hmf := hmf
 refine enter_F Tryz.func45 rfl Tryz.ntmps45 (by simp) ?_
 intro s0 hs; have sl0 : s0 0 = .pointer (some ⟨M, 0, none⟩) := hs 0 (by simp); have sl1 : s0 1 = .int .i64 every := hs 1 (by simp); have sl2 : s0 2 = .int .i64 most := hs 2 (by simp); clear hs; have HB := hid (OldB.refl [] w)
 repeat ((fail_if_success refine stp ?_); go_step)
 refine region_F ?_; refine pa (fun w1 B3 hB kb3' hb2 => ?_); have gb3 := HB.out.gB hB; have eb3 := eB hB; clear hB; replace HB := bE HB hb2; clear hb2; have kb3 := kb3'; clear kb3'; have qb3 := kb3.1; refine pa (fun w3 B4 hB kb4' hb4 => ?_); have gb4 := HB.out.gB hB; have ob3_b4 := oB qb3 hB; have eb4 := eB hB; clear hB; clear qb3; replace kb3 := kb3.at hb4; replace HB := bE HB hb4; clear hb4; have qb3 := kb3.1; have kb4 := kb4'; clear kb4'; have qb4 := kb4.1; refine pa (fun w5 B5 hB kb5' hb6 => ?_); have gb5 := HB.out.gB hB; have ob3_b5 := oB qb3 hB; have ob4_b5 := oB qb4 hB; have eb5 := eB hB; clear hB; clear qb3 qb4; replace kb3 := kb3.at hb6; replace kb4 := kb4.at hb6; replace HB := bE HB hb6; clear hb6; have qb3 := kb3.1; have qb4 := kb4.1; have kb5 := kb5'; clear kb5'; have qb5 := kb5.1; refine pl ?_; refine lsa fun s7 z' => ?_; have sl3 := gu 3 z'; have sl4 := gu 4 z'; have sl5 := gu 5 z'; clear z' sl0 sl1 sl2
 refine lsn ?_
 repeat ((fail_if_success refine stp ?_); go_step)
 refine region_F ?_; refine pl ?_; refine pl ?_; refine lsa fun s8 z' => ?_; have sl6 := gu 6 z'; clear z' sl3 sl4 sl5; refine lsn ?_
 repeat ((fail_if_success refine stp ?_); go_step)
 refine ret_F _ (res_t Tryz.results45 ((getD_F (by decide)).trans sl6)) ?_; exact ⟨B3, B5, B4, rfl, kb3, kb5, kb4, ⟨gb3, gb5, gb4⟩, HB.out.toBelow⟩

end Go.Proofs.YtleknidlgmmgbaaGreat
