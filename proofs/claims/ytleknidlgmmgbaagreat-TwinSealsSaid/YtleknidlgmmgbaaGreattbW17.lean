/- The program's order: Run. -/
import Derived.Test.YtleknidlgmmgbaaGreattbW16
import Derived.Test.YtleknidlgmmgbaaGreattbW7
import Derived.Test.YtleknidlgmmgbaaGreattbCX
import Derived.Test.YtleknidlgmmgbaaGreattbCY
set_option linter.all false
namespace Go.Proofs.YtleknidlgmmgbaaGreat

open Go.RowKit


theorem OldB.lowB {Bs : List Nat} {w0 w w' : World} {N : Nat} (h : OldB Bs w0 w) (hb : Below N w w') (hN : w0.heap.size ≤ N) : OldB Bs w0 w' :=
  ⟨hb.os.trans h.os, hb.tape.trans h.tape, hb.output.trans h.output, Nat.le_trans h.size hb.size, fun k hk hn => (hb.block k (by omega)).trans (h.block k hk hn)⟩
theorem Cells.lowB {w w' : World} {b N : Nat} {l : List Value} (h : Cells w b l) (hb : Below N w w') (hN : b < N) : Cells w' b l := h.kept (hb.block b hN) hb.size
/-- all that a state holds lies behind N -/
def SA.new (A : SA) (s : St4) (N : Nat) : Prop := ∀ k, k < N → A.free s k
/-- what Run of order answers -/
def runO (s : St4) (most : Int) : St4 := if openErr s most = 0 then run4 most.toNat s else St4.zero

set_option maxRecDepth 100000 in
set_option maxHeartbeats 8000000 in
theorem oRun_any (s : St4) (A : SA) (most : Int) (w : World) (hR : RdSt w s A) (hL : LenI s) :
    Calls Tryz.prog 31 #[.agg #[.slice A.sa s.store.length A.sc, .slice A.ta s.tape.length A.tc, .int .i64 s.taken, .slice A.pa s.printed.length A.pc, .int .i64 s.time, .int .i64 s.pc, .int .i64 s.done, .int .i64 s.why], .int .i64 most] w (fun e w' => ∃ A', e = .returned (.tuple #[.agg #[.slice A'.sa (runO s most).store.length A'.sc, .slice A'.ta (runO s most).tape.length A'.tc, .int .i64 (runO s most).taken, .slice A'.pa (runO s most).printed.length A'.pc, .int .i64 (runO s most).time, .int .i64 (runO s most).pc, .int .i64 (runO s most).done, .int .i64 (runO s most).why], .int .i64 (openErr s most)]) ∧ RdSt w' (runO s most) A' ∧ A'.new (runO s most) w.heap.size ∧ Below w.heap.size w w') := by
 have HR := hid hR; have HL := hid hL; clear hR hL
 refine enter_F Tryz.func31 rfl Tryz.ntmps31 (by simp) ?_
 intro s0 hs; have sl0 : s0 0 = .agg #[.slice A.sa s.store.length A.sc, .slice A.ta s.tape.length A.tc, .int .i64 s.taken, .slice A.pa s.printed.length A.pc, .int .i64 s.time, .int .i64 s.pc, .int .i64 s.done, .int .i64 s.why] := hs 0 (by simp); have sl1 : s0 1 = .int .i64 most := hs 1 (by simp); clear hs; have HB := hid (OldB.refl [] w)
 repeat ((fail_if_success refine stp ?_); go_step)
 refine region_F ?_; refine pa (fun w1 B2 hB kb2' hb2 => ?_); have gb2 := HB.out.gB hB; have eb2 := eB hB; clear hB; replace HB := bE HB hb2; clear hb2; have kb2 := kb2'; clear kb2'; have qb2 := kb2.1; refine pa (fun w3 B4 hB kb4' hb4 => ?_); have gb4 := HB.out.gB hB; have ob2_b4 := oB qb2 hB; have eb4 := eB hB; clear hB; clear qb2; replace kb2 := kb2.at hb4; replace HB := bE HB hb4; clear hb4; have qb2 := kb2.1; have kb4 := kb4'; clear kb4'; have qb4 := kb4.1; refine pl ?_; refine lsa fun s5 z' => ?_; replace sl1 := slg z' sl1; have sl2 := gu 2 z'; have sl4 := gu 4 z'; clear z' sl0; refine lsn ?_
 repeat ((fail_if_success refine stp ?_); go_step)
 by_cases he : openErr s most = 0
 ·skip
  obtain ⟨hok, hm1, hm2⟩ := open_zero.1 he; have HOk := hid hok; obtain ⟨n, rfl⟩ := Int.eq_ofNat_of_zero_le hm1; have Hm := hid (show 0 ≤ (n : Int) ∧ (n : Int) ≤ 5000 from ⟨hm1, hm2⟩)
  have hn5 : n ≤ 5000 := by omega
  have Hr := hid (show runO s n = run4 n s by unfold runO; rw [if_pos he]; rfl); have Hez := hid he; clear hok he; refine region_F ?_; obtain ⟨cb2_0, cb2_1, cb2_2, cb2_3, cb2_4, cb2_5, cb2_6, cb2_7⟩ := cl8 kb2; refine pl ?_; refine pl ?_; obtain ⟨NO, hNO⟩ : ∃ n, n = w3.heap.size := ⟨_, rfl⟩; have uNO := HB.out.gB hNO; have uNO_b2 := oB qb2 hNO; have uNO_b4 := oB qb4 hNO; refine cal (oopen_ok s A (n : Int) _ (HR.out.old HB.out) HOk.out Hm.out) ?_; rintro e w6 ⟨V, rfl, hM, hb7⟩; rw [← hNO] at hM
  have hNO2 : NO ≤ w6.heap.size := by have := hb7.size; omega
  clear hNO; refine ⟨_, rfl, ?_⟩; clear cb2_0 cb2_1 cb2_2 cb2_3 cb2_4 cb2_5 cb2_6 cb2_7; clear qb2 qb4; replace kb2 := kb2.at hb7; replace kb4 := kb4.at hb7; replace HB := bE HB hb7; clear hb7; have qb2 := kb2.1; have qb4 := kb4.1
  iterate 5 refine pl ?_
  refine lsa fun s8 z' => ?_; replace sl1 := slg z' sl1; replace sl4 := slg z' sl4; have sl6 := gu 6 z'; have sl7 := gu 7 z'; clear z' sl2; refine lsn ?_
  repeat ((fail_if_success refine stp ?_); go_step)
  refine region_F ?_; refine pl ?_; refine pl ?_; refine lsa fun s9 z' => ?_; replace sl1 := slg z' sl1; replace sl4 := slg z' sl4; replace sl6 := slg z' sl6; replace sl7 := slg z' sl7; have sl15 := gu 15 z'; clear z'; refine lsn ?_
  repeat ((fail_if_success refine stp ?_); go_step)
  refine cond_f ?_
  repeat ((fail_if_success refine stp ?_); go_step)
  refine region_F ?_; refine pl ?_; refine pl ?_; refine cal (orun_Run s _ NO V n _ hM HOk.out hNO2 hn5) ?_; rintro e w10 ⟨rfl, ⟨o9, hM9⟩, hb11⟩; refine ⟨_, rfl, ?_⟩; clear qb2 qb4; replace kb2 := kb2.lowB hb11 uNO_b2; replace kb4 := kb4.lowB hb11 uNO_b4; replace HB := hid (HB.out.lowB hb11 uNO); clear hb11; have qb2 := kb2.1; have qb4 := kb4.1; clear hM; refine lsa fun s12 z' => ?_; replace sl4 := slg z' sl4; replace sl6 := slg z' sl6; clear z' sl1 sl7 sl15; refine lsn ?_
  repeat ((fail_if_success refine stp ?_); go_step)
  refine region_F ?_
  iterate 3 refine pl ?_
  obtain ⟨G, sg, tt, ct, qp, cq, m1, m2, m3, m4, m5, m6, m7, m8, m9, m10, m11⟩ := hM9; clear m7 m8 m11; have kV := m4; clear m4; have qV := kV.1; obtain ⟨cV_0, cV_1, cV_2, cV_3, cV_4, cV_5, cV_6, cV_7, cV_8, cV_9, cV_10, cV_11⟩ := cl12 kV; refine pl ?_; obtain ⟨cb4_0, cb4_1, cb4_2, cb4_3, cb4_4, cb4_5, cb4_6, cb4_7⟩ := cl8 kb4; have zb4 := kb4.2.2; refine pl ?_; refine listF_absw (fun w13 hw' => ?_); have kb4' := cells_of hw' (Cells.set (i := 7) (Cells.set (i := 6) (Cells.set (i := 5) (Cells.set (i := 4) (Cells.set (i := 3) (Cells.set (i := 2) (Cells.set (i := 1) (Cells.set (i := 0) (kb4)))))))))
  (try simp only [stC, mC, List.set_cons_zero, List.set_cons_succ] at kb4')
  have hb14 : OldB [B4] w10 w13 := oldsetN hw'; clear hw'; clear cV_0 cV_1 cV_2 cV_3 cV_4 cV_5 cV_6 cV_7 cV_8 cV_9 cV_10 cV_11 cb4_0 cb4_1 cb4_2 cb4_3 cb4_4 cb4_5 cb4_6 cb4_7 zb4; clear qb2 qb4 qV; replace kb4 := kb4'; replace kb2 := kb2.oB hb14; replace kV := kV.oB hb14; replace m5 := Cells.oldB m5 hb14 (by simp; omega); replace m6 := Own.oldB m6 hb14 (fun g hg hm => by have := (World.ownsRow.lt m6 g hg).1; simp at hm; omega); replace m9 := Rd.oldN m9 hb14 (fun hl b hb hm => by have := (m10 hl b hb).1; simp at hm; omega); replace HB := mO HB hb14; clear hb14; have qb2 := kb2.1; have qb4 := kb4.1; have qV := kV.1; clear kb4'; refine pl ?_; refine lsa fun s15 z' => ?_; replace sl4 := slg z' sl4; have sl5 := gu 5 z'; clear z' sl6; refine lsn ?_
  repeat ((fail_if_success refine stp ?_); go_step)
  obtain ⟨cb4_0, cb4_1, cb4_2, cb4_3, cb4_4, cb4_5, cb4_6, cb4_7⟩ := cl8 kb4; refine ret_F _ (res_ct Tryz.results31 ((getD_F (by decide)).trans sl4) (load_t24 cb4_0 cb4_1 cb4_2 cb4_3 cb4_4 cb4_5 cb4_6 cb4_7) ((getD_F (by decide)).trans sl5)) ?_; exact ⟨⟨some ⟨G, 0, none⟩, sg, tt, ct, qp, cq⟩, by rw [Hr.out, Hez.out], by rw [Hr.out]; exact ⟨Cells.rd (f := int1) (m := 1) (fun _ => rfl) m5, m9, Own.rd' (f := int1) (m := 1) (fun _ => rfl) m6 rfl⟩, by rw [Hr.out]; exact fun k hk => ⟨fun _ b hb => by cases hb; show G ≠ k; omega, fun hl b hb => by have := (m10 hl b hb).1; omega, fun hl b hb e => by have := (World.ownsRow.lt m6 k (by rw [show qp = some b from hb, ← e]; rfl)).1; omega⟩, HB.out.toBelow⟩
 ·skip
  have He := hid he
  have hne : (openErr s most != 0) = true := by simpa using he
  have Hr := hid (show runO s most = St4.zero by unfold runO; rw [if_neg he]); clear he; refine region_F ?_; obtain ⟨cb2_0, cb2_1, cb2_2, cb2_3, cb2_4, cb2_5, cb2_6, cb2_7⟩ := cl8 kb2; refine pl ?_; refine pl ?_; refine cal (oopen_bad s A most _ (HR.out.old HB.out) HL.out He.out) ?_; rintro e w16 ⟨rfl, hb17⟩; refine ⟨_, rfl, ?_⟩; clear cb2_0 cb2_1 cb2_2 cb2_3 cb2_4 cb2_5 cb2_6 cb2_7; clear qb2 qb4; replace kb2 := kb2.at hb17; replace kb4 := kb4.at hb17; replace HB := bE HB hb17; clear hb17; have qb2 := kb2.1; have qb4 := kb4.1
  iterate 5 refine pl ?_
  refine lsa fun s18 z' => ?_; replace sl1 := slg z' sl1; replace sl4 := slg z' sl4; have sl6 := gu 6 z'; have sl7 := gu 7 z'; clear z' sl2; refine lsn ?_
  repeat ((fail_if_success refine stp ?_); go_step)
  refine region_F ?_; refine pl ?_; refine pl ?_; refine lsa fun s19 z' => ?_; replace sl1 := slg z' sl1; replace sl4 := slg z' sl4; replace sl6 := slg z' sl6; replace sl7 := slg z' sl7; have sl15 := gu 15 z'; clear z'; refine lsn ?_
  repeat ((fail_if_success refine stp ?_); go_step)
  refine cond_t ?_
  repeat ((fail_if_success refine stp ?_); go_step)
  refine region_F ?_; refine pl ?_; refine pl ?_; obtain ⟨cb4_0, cb4_1, cb4_2, cb4_3, cb4_4, cb4_5, cb4_6, cb4_7⟩ := cl8 kb4; have zb4 := kb4.2.2; refine pl ?_; refine listF_absw (fun w20 hw' => ?_); have kb4' := cells_of hw' (Cells.set (i := 7) (Cells.set (i := 6) (Cells.set (i := 5) (Cells.set (i := 4) (Cells.set (i := 3) (Cells.set (i := 2) (Cells.set (i := 1) (Cells.set (i := 0) (kb4)))))))))
  (try simp only [stC, mC, List.set_cons_zero, List.set_cons_succ] at kb4')
  have hb21 : OldB [B4] w16 w20 := oldsetN hw'; clear hw'; clear cb4_0 cb4_1 cb4_2 cb4_3 cb4_4 cb4_5 cb4_6 cb4_7 zb4; clear qb2 qb4; replace kb4 := kb4'; replace kb2 := kb2.oB hb21; replace HB := mO HB hb21; clear hb21; have qb2 := kb2.1; have qb4 := kb4.1; clear kb4'; refine pl ?_; refine lsa fun s22 z' => ?_; replace sl4 := slg z' sl4; have sl5 := gu 5 z'; clear z' sl1 sl6 sl7 sl15; refine lsn ?_
  repeat ((fail_if_success refine stp ?_); go_step)
  obtain ⟨cb4_0, cb4_1, cb4_2, cb4_3, cb4_4, cb4_5, cb4_6, cb4_7⟩ := cl8 kb4; refine ret_F _ (res_ct Tryz.results31 ((getD_F (by decide)).trans sl4) (load_t24 cb4_0 cb4_1 cb4_2 cb4_3 cb4_4 cb4_5 cb4_6 cb4_7) ((getD_F (by decide)).trans sl5)) ?_; exact ⟨SA.none, by rw [Hr.out]; rfl, by rw [Hr.out]; exact RdSt.zero _, by rw [Hr.out]; exact fun k hk => ⟨fun h => absurd rfl h, fun h => absurd rfl h, fun h => absurd rfl h⟩, HB.out.toBelow⟩

end Go.Proofs.YtleknidlgmmgbaaGreat
