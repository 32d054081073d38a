/- TwinMarks. -/
import Derived.Test.YtleknidlgmmgbaaGreattbW51
import Derived.Test.YtleknidlgmmgbaaGreattbW52
import Derived.Test.YtleknidlgmmgbaaGreattbR2
import Derived.Test.YtleknidlgmmgbaaGreattbCX
set_option linter.all false
namespace Go.Proofs.YtleknidlgmmgbaaGreat

open Go.RowKit

set_option maxRecDepth 100000 in
set_option maxHeartbeats 8000000 in
theorem marks_walk (al : Option Addr) (cl : Nat) (l : List Mrk) (am : Option Addr) (cm : Nat) (m : List Mrk) (w : World) (hRl : RdMk w al l) (hRm : RdMk w am m) (hll : l.length ≤ 9223372036854775807) (hlm : m.length ≤ 9223372036854775807) :
    Calls Tryz.prog 11 #[.slice al l.length cl, .slice am m.length cm] w (fun e w' => e = .returned (.bool true) ∧ Below w.heap.size w w') := by
 have HRl := hid hRl; have HRm := hid hRm; clear hRl hRm
 refine enter_F Tryz.func11 rfl Tryz.ntmps11 (by simp) ?_
 intro s0 hs; have sl0 : s0 0 = .slice al l.length cl := hs 0 (by simp); have sl1 : s0 1 = .slice am m.length cm := hs 1 (by simp); clear hs; have HB := hid (OldB.refl [] w)
 repeat ((fail_if_success refine stp ?_); go_step)
 refine region_F ?_; refine pl ?_; refine lsa fun s1 z' => ?_; replace sl0 := slg z' sl0; replace sl1 := slg z' sl1; clear z'; refine lsn ?_
 repeat ((fail_if_success refine stp ?_); go_step)
 refine region_F ?_; refine pl ?_; refine pl ?_; refine cal (tDiffer_any al cl l am cm m _ (Rd.oldB HRl.out HB.out (by simp)) (Rd.oldB HRm.out HB.out (by simp)) hll hlm) ?_; rintro e w2 ⟨rfl, hb3⟩; refine ⟨_, rfl, ?_⟩; replace HB := bE HB hb3; clear hb3
 iterate 5 refine pl ?_
 refine lsa fun s4 z' => ?_; replace sl0 := slg z' sl0; replace sl1 := slg z' sl1; have sl5 := gu 5 z'; have sl6 := gu 6 z'; clear z'; refine lsn ?_
 repeat ((fail_if_success refine stp ?_); go_step)
 refine region_F ?_; refine pl ?_; refine pl ?_; refine cal (rDiffer_any al cl l am cm m _ (Rd.oldB HRl.out HB.out (by simp)) (Rd.oldB HRm.out HB.out (by simp)) hll hlm) ?_; rintro e w5 ⟨rfl, hb6⟩; refine ⟨_, rfl, ?_⟩; replace HB := bE HB hb6; clear hb6
 iterate 5 refine pl ?_
 refine lsa fun s7 z' => ?_; replace sl5 := slg z' sl5; replace sl6 := slg z' sl6; have sl7 := gu 7 z'; have sl8 := gu 8 z'; clear z' sl0 sl1; refine lsn ?_
 repeat ((fail_if_success refine stp ?_); go_step)
 refine region_F ?_
 iterate 4 refine pl ?_
 iterate 3 refine py ?_
 refine pl ?_; refine pl ?_; refine listF_yes rfl rfl (by decide) ?_ (fun K' hK => ?_); (focus (go_simp; done)); unfold opF; go_simp; refine (awake_any _).mono ?_; rintro e w8 ⟨rfl, hb9⟩; refine ⟨_, rfl, hK _ _ ?_⟩; clear hK K'; replace HB := bE HB hb9; clear hb9; refine pl ?_; refine pl ?_; refine lsa fun s10 z' => ?_; have sl4 := gu 4 z'; clear z' sl5 sl6 sl7 sl8; refine lsn ?_
 repeat ((fail_if_success refine stp ?_); go_step)
 refine ret_F _ (res_t Tryz.results11 ((getD_F (by decide)).trans sl4)) ?_; exact ⟨rfl, HB.out.toBelow⟩

end Go.Proofs.YtleknidlgmmgbaaGreat
