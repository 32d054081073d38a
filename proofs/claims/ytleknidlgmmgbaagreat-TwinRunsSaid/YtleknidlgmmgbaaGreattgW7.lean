/- The reference: Run. -/
import Derived.Test.YtleknidlgmmgbaaGreattgW50
import Derived.Test.YtleknidlgmmgbaaGreattgCZ
set_option linter.all false
namespace Go.Proofs.YtleknidlgmmgbaaGreat

open Go.RowKit


def St4.zero : St4 := ⟨[], [], 0, [], 0, 0, 0, 0⟩
def SA.none : SA := ⟨Option.none, 0, Option.none, 0, Option.none, 0⟩
theorem RdSt.zero (w : World) : RdSt w St4.zero SA.none := ⟨.inl rfl, .inl rfl, .inl rfl⟩
/-- what Run answers -/
def runR (s : St4) (fs : List Flt) (most : Int) : St4 := if askErr12 s fs most = 0 then run12 s fs most.toNat else St4.zero


theorem rasked_v (s : St4) (A : SA) (af : Option Addr) (cf : Nat) (fs : List Flt) (most er : Int) (w : World) (hR : RdSt w s A) (hL : LenI s) (hF : RdFl w af fs) (hlf : fs.length ≤ 9223372036854775807) (hA : askErr12 s fs most = er) :
    Calls Tryz.prog 49 #[.agg #[.slice A.sa s.store.length A.sc, .slice A.ta s.tape.length A.tc, .int .i64 s.taken, .slice A.pa s.printed.length A.pc, .int .i64 s.time, .int .i64 s.pc, .int .i64 s.done, .int .i64 s.why], .slice af fs.length cf, .int .i64 most] w (fun e w' => e = .returned (.int .i64 er) ∧ Below w.heap.size w w') := by
  have := rasked12_any s A af cf fs most w hR hL hF hlf; rw [hA] at this; exact this
theorem rafter0_v (s : St4) (A : SA) (af : Option Addr) (cf : Nat) (fs : List Flt) (n : Nat) (R : St4) (w : World) (hR : RdSt w s A) (hO : OkI s) (hfo : FOk fs) (hlf : fs.length ≤ 10) (hF : RdFl w af fs) (hn : n ≤ 1000) (hr : run12 s fs n = R) :
    Calls Tryz.prog 50 #[.agg #[.slice A.sa s.store.length A.sc, .slice A.ta s.tape.length A.tc, .int .i64 s.taken, .slice A.pa s.printed.length A.pc, .int .i64 s.time, .int .i64 s.pc, .int .i64 s.done, .int .i64 s.why], .slice af fs.length cf, .int .i64 0, .int .i64 (n : Int)] w (fun e w' => ∃ A' : SA, e = .returned (.agg #[.slice A'.sa R.store.length A'.sc, .slice A'.ta R.tape.length A'.tc, .int .i64 R.taken, .slice A'.pa R.printed.length A'.pc, .int .i64 R.time, .int .i64 R.pc, .int .i64 R.done, .int .i64 R.why]) ∧ RdSt w' R A' ∧ Kept w.heap.size s A R A' ∧ Below w.heap.size w w') := by
  have := rafter12_any s A af cf fs 0 n w hR hO hfo hlf hF ⟨Nat.zero_le _, hn⟩; unfold run12 at hr; rw [Nat.sub_zero, hr] at this; exact this

theorem XW7b {A B1 : Prop} (hX1 : B1) (e : B1 → A := by exact ret_F _ (res_ct Tryz.results38 ((getD_F (by decide)).trans sl6) (load_t24 cb6_0 cb6_1 cb6_2 cb6_3 cb6_4 cb6_5 cb6_6 cb6_7) ((getD_F (by decide)).trans sl7))) : A := e hX1
set_option maxRecDepth 100000 in
set_option maxHeartbeats 8000000 in
theorem rrun12_v (s : St4) (A : SA) (af : Option Addr) (cf : Nat) (fs : List Flt) (most er : Int) (R : St4) (w : World) (hR : RdSt w s A) (hL : LenI s) (hlf : fs.length ≤ 9223372036854775807) (hF : RdFl w af fs) (hA : askErr12 s fs most = er) (hRR : runR s fs most = R) :
    Calls Tryz.prog 38 #[.agg #[.slice A.sa s.store.length A.sc, .slice A.ta s.tape.length A.tc, .int .i64 s.taken, .slice A.pa s.printed.length A.pc, .int .i64 s.time, .int .i64 s.pc, .int .i64 s.done, .int .i64 s.why], .slice af fs.length cf, .int .i64 most] w (fun e w' => ∃ A' : SA, e = .returned (.tuple #[.agg #[.slice A'.sa R.store.length A'.sc, .slice A'.ta R.tape.length A'.tc, .int .i64 R.taken, .slice A'.pa R.printed.length A'.pc, .int .i64 R.time, .int .i64 R.pc, .int .i64 R.done, .int .i64 R.why], .int .i64 er]) ∧ RdSt w' R A' ∧ Below w.heap.size w w') := by
 have HR := hid hR; have HL := hid hL; have HF := hid hF; have HA := hid hA; have HRR := hid hRR; clear hR hL hF hA hRR
 refine enter_F Tryz.func38 rfl Tryz.ntmps38 (by simp) ?_
 intro s0 hs; have sl0 : s0 0 = .agg #[.slice A.sa s.store.length A.sc, .slice A.ta s.tape.length A.tc, .int .i64 s.taken, .slice A.pa s.printed.length A.pc, .int .i64 s.time, .int .i64 s.pc, .int .i64 s.done, .int .i64 s.why] := hs 0 (by simp); have sl1 : s0 1 = .slice af fs.length cf := hs 1 (by simp); have sl2 : s0 2 = .int .i64 most := hs 2 (by simp); clear hs; have HB := hid (OldB.refl [] w)
 refine nr ?_; intros; refine pa (fun _ B3 hB kb3 hb => ?_); have gb3 := HB.out.gB hB; have eb3 := eB hB; clear hB; replace HB := bE HB hb; clear hb; have qb3 := kb3.1; refine pa (fun _ B6 hB kb6 hb => ?_); have gb6 := HB.out.gB hB; have ob3_b6 := oB qb3 hB; have eb6 := eB hB; clear hB; clear qb3; revert HB; revert kb3; refine uA hb ?_; clear hb; intro kb3 qb3 HB; have qb6 := kb6.1; refine pl ?_; clear sl0; refine lx [3,6] ?_; clear sl1 sl2; intro _ sl1 sl2 sl3 sl6; refine lr ?_; intros; have cb3 := clx kb3
 refine P3 ?_
 refine cal (rasked_v s A af cf fs most er _ (HR.out.old HB.out) HL.out (Rd.oldB HF.out HB.out (by simp)) hlf HA.out) ?_; rintro e _ ⟨rfl, hb⟩; refine ⟨_, rfl, ?_⟩; clear cb3; clear qb3 qb6; revert HB; revert kb6; revert kb3; refine uA hb ?_; clear hb; intro kb3 qb3 kb6 qb6 HB; refine pl ?_; refine lx [8] ?_; clear sl1 sl2 sl3 sl6; intro _ sl1 sl2 sl3 sl6 sl8; refine ln ?_; intros
 by_cases he : er = 0
 ·skip
  subst he; obtain ⟨hok, hfl, hfo, hm1, hm2⟩ := ask12_zero.1 HA.out; obtain ⟨n, rfl⟩ := Int.eq_ofNat_of_zero_le hm1; have Hok := hid hok; have Hfo := hid hfo
  have hn : n ≤ 1000 := by omega
  have Hr := hid (show run12 s fs n = R by rw [← HRR.out]; unfold runR; rw [if_pos HA.out]; rfl); clear hok hfo; refine region_F ?_; refine P2 ?_; refine lx [14] ?_; clear sl1 sl2 sl3 sl6 sl8; intro _ sl1 sl2 sl3 sl6 sl8 sl14; refine ln ?_; intros
  refine cond_f ?_
  refine nr ?_; intros; have cb3 := clx kb3
  refine P3 ?_
  refine cal (rafter0_v s A af cf fs n R _ (HR.out.old HB.out) Hok.out Hfo.out hfl (Rd.oldB HF.out HB.out (by simp)) hn Hr.out) ?_; rintro e _ ⟨C, rfl, HR2, hk, hb⟩; have HF6 := hid (hk _ qb6 (HR.out.freeB (by omega))); clear hk; refine ⟨_, rfl, ?_⟩; clear cb3; clear qb3 qb6; revert HB; revert kb6; revert kb3; refine uA hb ?_; clear hb; intro kb3 qb3 kb6 qb6 HB; obtain ⟨cb6_0, cb6_1, cb6_2, cb6_3, cb6_4, cb6_5, cb6_6, cb6_7⟩ := cl8 kb6; have zb6 := kb6.2.2; refine pl ?_; refine sto kb6 ?_; clear kb6 cb6_0 cb6_1 cb6_2 cb6_3 cb6_4 cb6_5 cb6_6 cb6_7 zb6; intro _ kb6 hb; clear qb3 qb6; replace HR2 := RdSt.oldK HR2 HF6.out hb; revert HB; revert kb3; refine uO hb ?_; clear hb; intro kb3 qb3 HB; have qb6 := kb6.1; refine pl ?_; clear sl1 sl2 sl3 sl8 sl14; refine lx [7] ?_; clear sl6; intro _ sl6 sl7; refine ln ?_; intros
  obtain ⟨cb6_0, cb6_1, cb6_2, cb6_3, cb6_4, cb6_5, cb6_6, cb6_7⟩ := cl8 kb6; refine XW7b ?_; exact ⟨C, rfl, HR2, HB.out.toBelow⟩
 ·skip
  have Hr := hid (show R = St4.zero by rw [← HRR.out]; unfold runR; rw [HA.out, if_neg he]); refine region_F ?_; refine P2 ?_; refine lx [14] ?_; clear sl1 sl2 sl3 sl6 sl8; intro _ sl1 sl2 sl3 sl6 sl8 sl14; refine ln ?_; intros
  refine cond_t ?_
  refine nr ?_; intros; refine P2 ?_; obtain ⟨cb6_0, cb6_1, cb6_2, cb6_3, cb6_4, cb6_5, cb6_6, cb6_7⟩ := cl8 kb6; have zb6 := kb6.2.2; refine pl ?_; refine sto kb6 ?_; clear kb6 cb6_0 cb6_1 cb6_2 cb6_3 cb6_4 cb6_5 cb6_6 cb6_7 zb6; intro _ kb6 hb; clear qb3 qb6; revert HB; revert kb3; refine uO hb ?_; clear hb; intro kb3 qb3 HB; have qb6 := kb6.1; refine pl ?_; clear sl1 sl2 sl3 sl8 sl14; refine lx [7] ?_; clear sl6; intro _ sl6 sl7; refine ln ?_; intros
  obtain ⟨cb6_0, cb6_1, cb6_2, cb6_3, cb6_4, cb6_5, cb6_6, cb6_7⟩ := cl8 kb6; refine XW7b ?_; exact ⟨SA.none, by rw [Hr.out]; rfl, by rw [Hr.out]; exact RdSt.zero _, HB.out.toBelow⟩

end Go.Proofs.YtleknidlgmmgbaaGreat
