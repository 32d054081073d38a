/- TwinFirsts. -/
import Derived.Test.YtleknidlgmmgbaaGreattsW51
import Derived.Test.YtleknidlgmmgbaaGreattsR7
import Derived.Test.YtleknidlgmmgbaaGreattsW55
import Derived.Test.YtleknidlgmmgbaaGreattsCZ
set_option linter.all false
namespace Go.Proofs.YtleknidlgmmgbaaGreat

open Go.RowKit

set_option maxRecDepth 100000 in
set_option maxHeartbeats 16000000 in
theorem firsts_walk (s : St4) (A : SA) (af : Option Addr) (cf : Nat) (fs : List Flt) (most : Int) (w : World) (hR : RdSt w s A) (hL : LenI s) (hF : RdFl w af fs) (hlf : fs.length ≤ 9223372036854775807) :
    Calls Tryz.prog 3 #[.agg #[.slice A.sa s.store.length A.sc, .slice A.ta s.tape.length A.tc, .int .i64 s.taken, .slice A.pa s.printed.length A.pc, .int .i64 s.time, .int .i64 s.pc, .int .i64 s.done, .int .i64 s.why], .slice af fs.length cf, .int .i64 most] w (fun e w' => e = .returned (.bool true) ∧ Below w.heap.size w w') := by
 have HR := hid hR; have HL := hid hL; have HF := hid hF; clear hR hL hF; obtain ⟨⟨n, st, er⟩, hfr⟩ : ∃ z, firstR s fs most = z := ⟨_, rfl⟩; have Hfr := hid hfr; clear hfr
 refine enter_F Tryz.func3 rfl Tryz.ntmps3 (by simp) ?_
 intro s0 hs; have sl0 : s0 0 = .agg #[.slice A.sa s.store.length A.sc, .slice A.ta s.tape.length A.tc, .int .i64 s.taken, .slice A.pa s.printed.length A.pc, .int .i64 s.time, .int .i64 s.pc, .int .i64 s.done, .int .i64 s.why] := hs 0 (by simp); have sl1 : s0 1 = .slice af fs.length cf := hs 1 (by simp); have sl2 : s0 2 = .int .i64 most := hs 2 (by simp); clear hs; have HB := hid (OldB.refl [] w)
 refine nr ?_; intros; refine pa (fun _ B3 hB kb3 hb => ?_); have gb3 := HB.out.gB hB; have eb3 := eB hB; clear hB; replace HB := bE HB hb; clear hb; have qb3 := kb3.1; refine pl ?_; clear sl0; refine lx [3] ?_; clear sl1 sl2; intro _ sl1 sl2 sl3; refine lr ?_; intros; have cb3 := clx kb3
 refine P3 ?_
 refine cal (tfirst12_v s A af cf fs most n er st _ (HR.out.old HB.out) HL.out hlf (Rd.oldB HF.out HB.out (by simp)) Hfr.out) ?_; rintro e _ ⟨rfl, hb⟩; refine ⟨_, rfl, ?_⟩; clear cb3; clear qb3; revert HB; revert kb3; refine uA hb ?_; clear hb; intro kb3 qb3 HB
 refine P4 ?_
 refine pa (fun _ B8 hB kb8 hb => ?_); have gb8 := HB.out.gB hB; have ob3_b8 := oB qb3 hB; have eb8 := eB hB; clear hB; clear qb3; revert HB; revert kb3; refine uA hb ?_; clear hb; intro kb3 qb3 HB; have qb8 := kb8.1; refine pl ?_; have cb8 := clx kb8; have zb8 := kb8.2.2; refine pl ?_; refine sto kb8 ?_; clear kb8 cb8 zb8; intro _ kb8 hb; clear qb3 qb8; revert HB; revert kb3; refine uO hb ?_; clear hb; intro kb3 qb3 HB; have qb8 := kb8.1; refine pl ?_; refine lx [7,8,9] ?_; clear sl1 sl2 sl3; intro _ sl1 sl2 sl3 sl7 sl8 sl9; refine lr ?_; intros; have cb3 := clx kb3
 refine P3 ?_
 refine cal (rFirst_v s A af cf fs most n er st _ (HR.out.old HB.out) HL.out hlf (Rd.oldB HF.out HB.out (by simp)) Hfr.out) ?_; rintro e _ ⟨rfl, hb⟩; refine ⟨_, rfl, ?_⟩; clear cb3; clear qb3 qb8; revert HB; revert kb8; revert kb3; refine uA hb ?_; clear hb; intro kb3 qb3 kb8 qb8 HB
 refine P4 ?_
 refine pa (fun _ B11 hB kb11 hb => ?_); have gb11 := HB.out.gB hB; have ob3_b11 := oB qb3 hB; have ob8_b11 := oB qb8 hB; have eb11 := eB hB; clear hB; clear qb3 qb8; revert HB; revert kb8; revert kb3; refine uA hb ?_; clear hb; intro kb3 qb3 kb8 qb8 HB; have qb11 := kb11.1; refine pl ?_; have cb11 := clx kb11; have zb11 := kb11.2.2; refine pl ?_; refine sto kb11 ?_; clear kb11 cb11 zb11; intro _ kb11 hb; clear qb3 qb8 qb11; revert HB; revert kb8; revert kb3; refine uO hb ?_; clear hb; intro kb3 qb3 kb8 qb8 HB; have qb11 := kb11.1; refine pl ?_; clear sl1 sl2 sl3; refine lx [10,11,12] ?_; clear sl7 sl8 sl9; intro _ sl7 sl8 sl9 sl10 sl11 sl12; refine lr ?_; intros
 refine P4 ?_
 have cb8 := clx kb8; refine py ?_; have cb11 := clx kb11; refine py ?_; refine py ?_; refine P2 ?_
 iterate 3 refine py ?_
 refine P2 ?_; refine listF_yes rfl rfl (by decide) ?_ (fun K' hK => ?_); (focus (go_simp; done)); unfold opF; go_simp; refine (awake_any _).mono ?_; rintro e _ ⟨rfl, hb⟩; refine ⟨_, rfl, hK _ _ ?_⟩; clear hK K'; clear cb11 cb8; clear qb3 qb8 qb11; revert HB; revert kb11; revert kb8; revert kb3; refine uA hb ?_; clear hb; intro kb3 qb3 kb8 qb8 kb11 qb11 HB; refine P2 ?_; clear sl7 sl8 sl9 sl10 sl11 sl12; refine lx [6] ?_; intro _ sl6; refine ln ?_; intros
 refine ret_F _ (res_t Tryz.results3 ((getD_F (by decide)).trans sl6)) ?_; exact ⟨rfl, HB.out.toBelow⟩

end Go.Proofs.YtleknidlgmmgbaaGreat
