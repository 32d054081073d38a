/- TwinLogs. -/
import Derived.Test.YtleknidlgmmgbaaGreattlV9
import Derived.Test.YtleknidlgmmgbaaGreattlW56
set_option linter.all false
namespace Go.Proofs.YtleknidlgmmgbaaGreat

open Go.RowKit


theorem logR_le {s : St4} {fs : List Flt} {ev most e : Int} {l : List Mrk} (h : logR s fs ev most = (l, e)) : l.length ≤ 1000 := by
  by_cases he : e = 0
  · subst he
    obtain ⟨h1, h2, h3⟩ := logR_fine h; have h4 := (ask12_zero.1 h1).2.2.2; rw [h3, logL_len]; have := cnt_le (every := ev.toNat) (most := most.toNat) (by omega)
    omega
  · rw [logR_err h he]; simp
theorem halfR_le (s : St4) (fs : List Flt) (ev most : Int) (od : Bool) : (halfR s fs ev most od).1.length ≤ 9223372036854775807 := by
  unfold halfR
  by_cases h1 : askErr12 s fs most ≠ 0
  · rw [if_pos h1]; simp
  · rw [if_neg h1]
    by_cases h2 : inI ev 1 1000 = false
    · rw [if_pos h2]; simp
    · rw [if_neg h2]
      have h3 := (inI_iff ev 1 1000).1 (by simpa using h2); have h4 := (ask12_zero.1 (Decidable.not_not.1 h1)).2.2.2; have h5 := halfU_len (s := s) (fs := fs) (every := ev.toNat) (most := most.toNat) (odd := od) (cntN ev.toNat most.toNat); have h6 := cnt_le (every := ev.toNat) (most := most.toNat) (by omega)
      show (halfL s fs ev.toNat most.toNat od).length ≤ _
      unfold halfL
      omega
theorem thalf_e (s : St4) (A : SA) (af : Option Addr) (cf : Nat) (fs : List Flt) (every most : Int) (odd : Bool) (w : World) (hR : RdSt w s A) (hL : LenI s) (hlf : fs.length ≤ 9223372036854775807) (hF : RdFl w af fs) :
    Calls Tryz.prog 30 #[sV s A, .slice af fs.length cf, .int .i64 every, .int .i64 most, .bool odd] w (fun e w' => ∃ a c, e = .returned (.tuple #[.slice a (halfR s fs every most odd).1.length c, .int .i64 (halfR s fs every most odd).2]) ∧ RdInts w' a (halfR s fs every most odd).1 ∧ Below w.heap.size w w') := by
  refine (thalf_v s A af cf fs every most (halfR s fs every most odd).2 odd (halfR s fs every most odd).1 w hR hL hlf hF rfl).mono ?_; rintro e w' ⟨a, c, h1, h2, -, h3⟩; exact ⟨a, c, h1, h2, h3⟩
theorem rhalf_e (s : St4) (A : SA) (af : Option Addr) (cf : Nat) (fs : List Flt) (every most : Int) (odd : Bool) (w : World) (hR : RdSt w s A) (hL : LenI s) (hlf : fs.length ≤ 9223372036854775807) (hF : RdFl w af fs) :
    Calls Tryz.prog 42 #[sV s A, .slice af fs.length cf, .int .i64 every, .int .i64 most, .bool odd] w (fun e w' => ∃ a c, e = .returned (.tuple #[.slice a (halfR s fs every most odd).1.length c, .int .i64 (halfR s fs every most odd).2]) ∧ RdInts w' a (halfR s fs every most odd).1 ∧ Below w.heap.size w w') := by
  refine (rHalf_v s A af cf fs every most (halfR s fs every most odd).2 odd (halfR s fs every most odd).1 w hR hL hlf hF rfl).mono ?_; rintro e w' ⟨a, c, h1, h2, h3⟩; exact ⟨a, c, h1, h2, h3⟩

set_option maxRecDepth 100000 in
set_option maxHeartbeats 32000000 in
theorem logs_walk (s : St4) (A : SA) (af : Option Addr) (cf : Nat) (fs : List Flt) (y0 y1 : Int) (w : World) (hR : RdSt w s A) (hL : LenI s) (hF : RdFl w af fs) (hlf : fs.length ≤ 9223372036854775807) :
    Calls Tryz.prog 14 #[sV s A, .slice af fs.length cf, .agg #[.int .i64 y0, .int .i64 y1]] w (fun e w' => e = .returned (.bool true) ∧ Below w.heap.size w w') := by
 have HR := hid hR; have HL := hid hL; have HF := hid hF; clear hR hL hF; obtain ⟨⟨l, e1⟩, hl⟩ : ∃ z, logR s fs y0 y1 = z := ⟨_, rfl⟩; have Hl := hid hl; have Hll := hid (logR_le hl); clear hl
 refine enter_F Tryz.func14 rfl Tryz.ntmps14 (by simp) ?_
 intro s0 hs; have Z0 : s0 0 = .agg #[.slice A.sa s.store.length A.sc, .slice A.ta s.tape.length A.tc, .int .i64 s.taken, .slice A.pa s.printed.length A.pc, .int .i64 s.time, .int .i64 s.pc, .int .i64 s.done, .int .i64 s.why] := hs 0 (by simp); have Z1 : s0 1 = .slice af fs.length cf := hs 1 (by simp); have Z2 : s0 2 = .agg #[.int .i64 y0, .int .i64 y1] := hs 2 (by simp); clear hs; have HB := hid (OldB.refl [] w)
 refine nr ?_; intros; refine pa (fun _ B3 hB Y3 hb => ?_); have gb3 := HB.out.gB hB; have eb3 := eB hB; clear hB; replace HB := bE HB hb; clear hb; have Q3 := Y3.1; refine pa (fun _ B5 hB Y5 hb => ?_); have gb5 := HB.out.gB hB; have ob3_b5 := oB Q3 hB; have eb5 := eB hB; clear hB; clear Q3; revert Y3 HB; refine uA hb ?_; clear hb; intro Y3 Q3 HB; have Q5 := Y5.1; refine pl ?_; clear Z0 Z2; refine lx [3,5] ?_; clear Z1; intro _ Z1 Z3 Z5; refine lr ?_; intros; have cb3 := clx Y3
 refine P3 ?_
 have cb5 := clx Y5
 refine P3 ?_
 refine cal (tlog_v s A af cf fs y0 y1 e1 l _ (HR.out.old HB.out) HL.out hlf (Rd.oldB HF.out HB.out (by simp)) Hl.out) ?_; rintro e _ ⟨a7, c7, rfl, hr7, -, hb⟩; refine ⟨_, rfl, ?_⟩; clear cb3 cb5; clear Q3 Q5; revert Y5 Y3 HB; refine uA hb ?_; clear hb; intro Y5 Q5 Y3 Q3 HB
 refine P5 ?_
 refine lx [7,8] ?_; clear Z1 Z3 Z5; intro _ Z1 Z3 Z5 Z7 Z8; refine lr ?_; intros; have cb3 := clx Y3
 refine P3 ?_
 have cb5 := clx Y5
 refine P3 ?_
 refine cal (rLog_v s A af cf fs y0 y1 e1 l _ (HR.out.old HB.out) HL.out hlf (Rd.oldB HF.out HB.out (by simp)) Hl.out) ?_; rintro e _ ⟨a9, c9, rfl, hr9, hb⟩; refine ⟨_, rfl, ?_⟩; clear cb3 cb5; clear Q3 Q5; replace hr7 := Rd.at hr7 hb; revert Y5 Y3 HB; refine uA hb ?_; clear hb; intro Y5 Q5 Y3 Q3 HB
 refine P5 ?_
 refine lx [9,10] ?_; clear Z1 Z3 Z5 Z7 Z8; intro _ Z1 Z3 Z5 Z7 Z8 Z9 Z10; refine lr ?_; intros; refine P2 ?_; refine cal (rmarks_any a7 c7 l a9 c9 l _ hr7 hr9 (by have := Hll.out; omega) (by have := Hll.out; omega)) ?_; rintro e w12 ⟨rfl, hb⟩; refine ⟨_, rfl, ?_⟩; clear Q3 Q5; replace hr7 := Rd.at hr7 hb; replace hr9 := Rd.at hr9 hb; revert Y5 Y3 HB; refine uA hb ?_; clear hb; intro Y5 Q5 Y3 Q3 HB; refine P2 ?_
 iterate 3 refine py ?_
 refine pl ?_; clear Z7 Z8 Z9 Z10; refine lx [44] ?_; clear Z1 Z3 Z5; intro _ Z1 Z3 Z5 Z44; refine ln ?_; intros
 refine cond_f ?_
 refine nr ?_; intros; refine pl ?_; clear Z44; refine lx [11] ?_; clear Z1 Z3 Z5; intro s15 Z1 Z3 Z5 Z11; refine ln ?_; intros
 have hc0_1 := hid Z1; have hc0_3 := hid Z3; have hc0_5 := hid Z5; refine loop_F (n := 83) (fun kJ sJ wJ => ∃ (t : Nat), kJ = 2 - t ∧ sJ 11 = .int .i64 (t : Int) ∧ sJ 1 = s15 1 ∧ sJ 3 = s15 3 ∧ sJ 5 = s15 5 ∧ OldB [] w12 wJ ∧ t ≤ 2) ⟨0, rfl, (by first | exact Z11 | (rw [Z11]; go_num) | (rw [Z11]; rfl)), rfl, rfl, rfl, OldB.refl _ _, Nat.zero_le _⟩ ?_; clear Z11; rintro kJ s16 w17 ⟨t, rfl, Z11, e1, e3, e5, hb, htl⟩; rw [← e1] at Z1; clear e1; rw [← e3] at Z3; clear e3; rw [← e5] at Z5; clear e5; have hoJ := hb; clear Q3 Q5; replace hr7 := Rd.oldB hr7 hb (by simp); replace hr9 := Rd.oldB hr9 hb (by simp); revert Y5 Y3 HB; refine uO hb ?_; clear hb; intro Y5 Q5 Y3 Q3 HB; have HoJ := hid hoJ; clear hoJ
 have HL19 := HoJ; clear HoJ
 refine nr ?_; intros; refine P2 ?_; refine lx [46] ?_; clear Z1 Z3 Z5 Z11; intro _ Z1 Z3 Z5 Z11 Z46; refine ln ?_; intros
 refine cond_E Z46 (by decide) ?_ ?_ <;> (clear Z46; intro h46 Z46)
 ·skip
  have ht : t < 2 := by have h := h46; simp at h; omega
  refine nr ?_; intros; have cb3 := clx Y3
  refine P3 ?_
  have cb5 := clx Y5
  refine P5 ?_
  refine cal (thalf_e s A af cf fs y0 y1 _ _ (HR.out.old HB.out) HL.out hlf (Rd.oldB HF.out HB.out (by simp))) ?_; rintro e _ ⟨a12, c12, rfl, hr12, hb⟩; refine ⟨_, rfl, ?_⟩; clear cb3 cb5; clear Q3 Q5; replace hr7 := Rd.at hr7 hb; replace hr9 := Rd.at hr9 hb; revert Y5 Y3 HB HL19; refine uA hb ?_; clear hb; intro Y5 Q5 Y3 Q3 HB HL19
  refine P5 ?_
  clear Z46; refine lx [12,13] ?_; clear Z1 Z3 Z5 Z11; intro _ Z1 Z3 Z5 Z11 Z12 Z13; refine lr ?_; intros; have cb3 := clx Y3
  refine P3 ?_
  have cb5 := clx Y5
  refine P5 ?_
  refine cal (rhalf_e s A af cf fs y0 y1 _ _ (HR.out.old HB.out) HL.out hlf (Rd.oldB HF.out HB.out (by simp))) ?_; rintro e _ ⟨a14, c14, rfl, hr14, hb⟩; refine ⟨_, rfl, ?_⟩; clear cb3 cb5; clear Q3 Q5; replace hr7 := Rd.at hr7 hb; replace hr9 := Rd.at hr9 hb; replace hr12 := Rd.at hr12 hb; revert Y5 Y3 HB HL19; refine uA hb ?_; clear hb; intro Y5 Q5 Y3 Q3 HB HL19
  refine P5 ?_
  refine lx [14,15] ?_; clear Z1 Z3 Z5 Z11 Z12 Z13; intro _ Z1 Z3 Z5 Z11 Z12 Z13 Z14 Z15; refine lr ?_; intros; refine P2 ?_; refine cal (rints_any a12 c12 _ a14 c14 _ _ hr12 hr14 (halfR_le _ _ _ _ _) (halfR_le _ _ _ _ _)) ?_; rintro e _ ⟨rfl, hb⟩; refine ⟨_, rfl, ?_⟩; clear Q3 Q5; replace hr7 := Rd.at hr7 hb; replace hr9 := Rd.at hr9 hb; replace hr12 := Rd.at hr12 hb; replace hr14 := Rd.at hr14 hb; revert Y5 Y3 HB HL19; refine uA hb ?_; clear hb; intro Y5 Q5 Y3 Q3 HB HL19; refine P2 ?_
  iterate 3 refine py ?_
  refine pl ?_; clear Z12 Z13 Z14 Z15; refine lx [78,79,80,81] ?_; clear Z1 Z3 Z5 Z11; intro _ Z1 Z3 Z5 Z11 Z78 Z79 Z80 Z81; refine ln ?_; intros
  refine cond_f ?_
  refine nr ?_; intros
  refine P3 ?_
  clear Z11 Z81; refine lx [11] ?_; clear Z1 Z3 Z5 Z78 Z79 Z80; intro _ Z1 Z3 Z5 Z78 Z79 Z80 Z11; refine ln ?_; intros
  refine ⟨_, _, rfl, ?_, t + 1, rfl, (rL Z11), sh, sh, sh, HL19.out, by omega⟩
  omega
 ·skip
  refine zx ?_; intros
  clear HL19; clear hc0_1 hc0_3 hc0_5; refine region_F ?_; refine cal (awake_any _) ?_; rintro e _ ⟨rfl, hb⟩; refine ⟨_, rfl, ?_⟩; clear Q3 Q5; replace hr7 := Rd.at hr7 hb; replace hr9 := Rd.at hr9 hb; revert Y5 Y3 HB; refine uA hb ?_; clear hb; intro Y5 Q5 Y3 Q3 HB; refine pl ?_; clear Z1 Z3 Z5 Z11 Z46; refine lx [6] ?_; intro _ Z6; refine ln ?_; intros
  refine ret_F _ (res_t Tryz.results14 ((getD_F (by decide)).trans Z6)) ?_; exact ⟨rfl, HB.out.toBelow⟩

end Go.Proofs.YtleknidlgmmgbaaGreat
