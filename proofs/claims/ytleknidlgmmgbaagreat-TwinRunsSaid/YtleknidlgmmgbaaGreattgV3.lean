/- TwinRuns. -/
import Derived.Test.YtleknidlgmmgbaaGreattgW51
import Derived.Test.YtleknidlgmmgbaaGreattgW53
import Derived.Test.YtleknidlgmmgbaaGreattgW7
import Derived.Test.YtleknidlgmmgbaaGreattgW24
import Derived.Test.YtleknidlgmmgbaaGreattgR7
import Derived.Test.YtleknidlgmmgbaaGreattgCZ
set_option linter.all false
namespace Go.Proofs.YtleknidlgmmgbaaGreat

open Go.RowKit

set_option maxRecDepth 100000 in
set_option maxHeartbeats 16000000 in
theorem runs_walk (s : St4) (A : SA) (af : Option Addr) (cf : Nat) (fs : List Flt) (most : Int) (w : World) (hR : RdSt w s A) (hL : LenI s) (hF : RdFl w af fs) (hlf : fs.length ≤ 9223372036854775807) :
    Calls Tryz.prog 12 #[.agg #[.slice A.sa s.store.length A.sc, .slice A.ta s.tape.length A.tc, .int .i64 s.taken, .slice A.pa s.printed.length A.pc, .int .i64 s.time, .int .i64 s.pc, .int .i64 s.done, .int .i64 s.why], .slice af fs.length cf, .int .i64 most] w (fun e w' => e = .returned (.bool true) ∧ Below w.heap.size w w') := by
 have HR := hid hR; have HL := hid hL; have HF := hid hF; clear hR hL hF; obtain ⟨er, hA⟩ : ∃ z, askErr12 s fs most = z := ⟨_, rfl⟩; obtain ⟨R, hRR⟩ : ∃ z, runR s fs most = z := ⟨_, rfl⟩; have HA := hid hA; have HRR := hid hRR; have HLr := hid (show LenI R by rw [← hRR]; exact runR_len); clear hA hRR
 refine enter_F Tryz.func12 rfl Tryz.ntmps12 (by simp) ?_
 intro s0 hs; have sl0 : s0 0 = .agg #[.slice A.sa s.store.length A.sc, .slice A.ta s.tape.length A.tc, .int .i64 s.taken, .slice A.pa s.printed.length A.pc, .int .i64 s.time, .int .i64 s.pc, .int .i64 s.done, .int .i64 s.why] := hs 0 (by simp); have sl1 : s0 1 = .slice af fs.length cf := hs 1 (by simp); have sl2 : s0 2 = .int .i64 most := hs 2 (by simp); clear hs; have HB := hid (OldB.refl [] w)
 refine nr ?_; intros; refine pa (fun _ B3 hB kb3 hb => ?_); have gb3 := HB.out.gB hB; have eb3 := eB hB; clear hB; replace HB := bE HB hb; clear hb; have qb3 := kb3.1; refine pl ?_; clear sl0; refine lx [3] ?_; clear sl1 sl2; intro _ sl1 sl2 sl3; refine lr ?_; intros; have cb3 := clx kb3; refine pl ?_; refine cal (tSeal_any s A _ (HR.out.old HB.out) HL.out) ?_; rintro e _ ⟨rfl, hb⟩; refine ⟨_, rfl, ?_⟩; clear cb3; clear qb3; revert HB; revert kb3; refine uA hb ?_; clear hb; intro kb3 qb3 HB
 refine P5 ?_
 refine lx [7,8] ?_; clear sl1 sl2 sl3; intro _ sl1 sl2 sl3 sl7 sl8; refine lr ?_; intros; have cb3 := clx kb3; refine pl ?_; refine cal (rSeal_any s A _ (HR.out.old HB.out) HL.out) ?_; rintro e _ ⟨rfl, hb⟩; refine ⟨_, rfl, ?_⟩; clear cb3; clear qb3; revert HB; revert kb3; refine uA hb ?_; clear hb; intro kb3 qb3 HB
 refine P5 ?_
 refine lx [9,10] ?_; clear sl1 sl2 sl3 sl7 sl8; intro _ sl1 sl2 sl3 sl7 sl8 sl9 sl10; refine lr ?_; intros
 refine P4 ?_
 iterate 3 refine py ?_
 refine pl ?_; clear sl7 sl8 sl9 sl10; refine lx [30] ?_; clear sl1 sl2 sl3; intro _ sl1 sl2 sl3 sl30; refine ln ?_; intros
 refine cond_f ?_
 refine nr ?_; intros; have cb3 := clx kb3
 refine P3 ?_
 refine cal (tRun_v s A af cf fs most er R _ (HR.out.old HB.out) HL.out hlf (Rd.oldB HF.out HB.out (by simp)) HA.out HRR.out) ?_; rintro e w11 ⟨A1, rfl, hR_A1, hb⟩; have Hf_A1 := hid (fun k (hk : w11.heap.size ≤ k) => RdSt.freeB (k := k) hR_A1 hk); refine ⟨_, rfl, ?_⟩; clear cb3; clear qb3; revert HB; revert kb3; refine uA hb ?_; clear hb; intro kb3 qb3 HB; have HL1 := hid (OldB.refl [] w11)
 refine P3 ?_
 refine pa (fun _ B11 hB kb11 hb => ?_); have gb11 := HB.out.gB hB; have lHL1_b11 := HL1.out.gB hB; have ob3_b11 := oB qb3 hB; have eb11 := eB hB; clear hB; clear qb3; replace hR_A1 := RdSt.at hR_A1 hb; revert HB; revert HL1; revert kb3; refine uA hb ?_; clear hb; intro kb3 qb3 HL1 HB; have qb11 := kb11.1; have cb11 := clx kb11; have zb11 := kb11.2.2; refine pl ?_; refine sto kb11 ?_; clear kb11 cb11 zb11; intro _ kb11 hb; clear qb3 qb11; replace hR_A1 := (by first | exact RdSt.old hR_A1 hb | exact RdSt.oldK hR_A1 (Hf_A1.out _ (by omega)) hb); revert HB; revert HL1; revert kb3; refine uO hb ?_; clear hb; intro kb3 qb3 HL1 HB; have qb11 := kb11.1; refine pl ?_; clear sl30; refine lx [8,11] ?_; clear sl1 sl2 sl3; intro _ sl1 sl2 sl3 sl8 sl11; refine lr ?_; intros; have cb3 := clx kb3
 refine P3 ?_
 refine cal (rrun12_v s A af cf fs most er R _ (HR.out.old HB.out) HL.out hlf (Rd.oldB HF.out HB.out (by simp)) HA.out HRR.out) ?_; rintro e w18 ⟨A2, rfl, hR_A2, hb⟩; have Hf_A2 := hid (fun k (hk : w18.heap.size ≤ k) => RdSt.freeB (k := k) hR_A2 hk); refine ⟨_, rfl, ?_⟩; clear cb3; clear qb3 qb11; replace hR_A1 := RdSt.at hR_A1 hb; revert HB; revert HL1; revert kb11; revert kb3; refine uA hb ?_; clear hb; intro kb3 qb3 kb11 qb11 HL1 HB; have HL2 := hid (OldB.refl [] w18)
 refine P3 ?_
 refine pa (fun _ B12 hB kb12 hb => ?_); have gb12 := HB.out.gB hB; have lHL1_b12 := HL1.out.gB hB; have lHL2_b12 := HL2.out.gB hB; have ob3_b12 := oB qb3 hB; have ob11_b12 := oB qb11 hB; have eb12 := eB hB; clear hB; clear qb3 qb11; replace hR_A1 := RdSt.at hR_A1 hb; replace hR_A2 := RdSt.at hR_A2 hb; revert HB; revert HL2; revert HL1; revert kb11; revert kb3; refine uA hb ?_; clear hb; intro kb3 qb3 kb11 qb11 HL1 HL2 HB; have qb12 := kb12.1; have cb12 := clx kb12; have zb12 := kb12.2.2; refine pl ?_; refine sto kb12 ?_; clear kb12 cb12 zb12; intro _ kb12 hb; clear qb3 qb11 qb12; replace hR_A1 := (by first | exact RdSt.old hR_A1 hb | exact RdSt.oldK hR_A1 (Hf_A1.out _ (by omega)) hb); replace hR_A2 := (by first | exact RdSt.old hR_A2 hb | exact RdSt.oldK hR_A2 (Hf_A2.out _ (by omega)) hb); revert HB; revert HL2; revert HL1; revert kb11; revert kb3; refine uO hb ?_; clear hb; intro kb3 qb3 kb11 qb11 HL1 HL2 HB; have qb12 := kb12.1; refine pl ?_; clear sl1 sl2 sl3; refine lx [10,12] ?_; clear sl8 sl11; intro _ sl8 sl11 sl10 sl12
 refine lr ?_; intros; have cb11 := clx kb11; refine pl ?_; have cb12 := clx kb12; refine pl ?_; refine cal (rstates_any R A1 R A2 _ hR_A1 hR_A2 HLr.out HLr.out) ?_; rintro e _ ⟨rfl, hb⟩; refine ⟨_, rfl, ?_⟩; clear cb11 cb12; clear qb3 qb11 qb12; replace hR_A1 := RdSt.at hR_A1 hb; replace hR_A2 := RdSt.at hR_A2 hb; revert HB; revert HL2; revert HL1; revert kb12; revert kb11; revert kb3; refine uA hb ?_; clear hb; intro kb3 qb3 kb11 qb11 kb12 qb12 HL1 HL2 HB; refine pl ?_
 iterate 3 refine py ?_
 refine P2 ?_; refine listF_yes rfl rfl (by decide) ?_ (fun K' hK => ?_); (focus (go_simp; done)); unfold opF; go_simp; refine (awake_any _).mono ?_; rintro e _ ⟨rfl, hb⟩; refine ⟨_, rfl, hK _ _ ?_⟩; clear hK K'; clear qb3 qb11 qb12; replace hR_A1 := RdSt.at hR_A1 hb; replace hR_A2 := RdSt.at hR_A2 hb; revert HB; revert HL2; revert HL1; revert kb12; revert kb11; revert kb3; refine uA hb ?_; clear hb; intro kb3 qb3 kb11 qb11 kb12 qb12 HL1 HL2 HB; refine P2 ?_; clear sl8 sl10 sl11 sl12; refine lx [6] ?_; intro _ sl6; refine ln ?_; intros
 refine ret_F _ (res_t Tryz.results12 ((getD_F (by decide)).trans sl6)) ?_; exact ⟨rfl, HB.out.toBelow⟩

end Go.Proofs.YtleknidlgmmgbaaGreat
