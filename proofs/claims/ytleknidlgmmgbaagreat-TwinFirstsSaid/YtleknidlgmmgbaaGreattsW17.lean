/- The program's order: Run. -/
import Derived.Test.YtleknidlgmmgbaaGreattsW16
import Derived.Test.YtleknidlgmmgbaaGreattsW7
import Derived.Test.YtleknidlgmmgbaaGreattsCZ
set_option linter.all false
namespace Go.Proofs.YtleknidlgmmgbaaGreat

open Go.RowKit


theorem OldB.lowB {Bs : List Nat} {w0 w w' : World} {N : Nat} (h : OldB Bs w0 w) (hb : Below N w w') (hN : w0.heap.size ≤ N) : OldB Bs w0 w' :=
  ⟨hb.os.trans h.os, hb.tape.trans h.tape, hb.output.trans h.output, Nat.le_trans h.size hb.size, fun k hk hn => (hb.block k (by omega)).trans (h.block k hk hn)⟩
theorem Cells.lowB {w w' : World} {b N : Nat} {l : List Value} (h : Cells w b l) (hb : Below N w w') (hN : b < N) : Cells w' b l := h.kept (hb.block b hN) hb.size
/-- all that a state holds lies behind N -/
def SA.new (A : SA) (s : St4) (N : Nat) : Prop := ∀ k, k < N → A.free s k
/-- what Run of order answers -/
def runO (s : St4) (most : Int) : St4 := if openErr s most = 0 then run4 most.toNat s else St4.zero

theorem XW17b {A B1 : Prop} (hX1 : B1) (e : B1 → A := by exact ret_F _ (res_ct Tryz.results31 ((getD_F (by decide)).trans sl4) (load_t24 cb4_0 cb4_1 cb4_2 cb4_3 cb4_4 cb4_5 cb4_6 cb4_7) ((getD_F (by decide)).trans sl5))) : A := e hX1
set_option maxRecDepth 100000 in
set_option maxHeartbeats 8000000 in
theorem oRun_any (s : St4) (A : SA) (most : Int) (w : World) (hR : RdSt w s A) (hL : LenI s) :
    Calls Tryz.prog 31 #[.agg #[.slice A.sa s.store.length A.sc, .slice A.ta s.tape.length A.tc, .int .i64 s.taken, .slice A.pa s.printed.length A.pc, .int .i64 s.time, .int .i64 s.pc, .int .i64 s.done, .int .i64 s.why], .int .i64 most] w (fun e w' => ∃ A', e = .returned (.tuple #[.agg #[.slice A'.sa (runO s most).store.length A'.sc, .slice A'.ta (runO s most).tape.length A'.tc, .int .i64 (runO s most).taken, .slice A'.pa (runO s most).printed.length A'.pc, .int .i64 (runO s most).time, .int .i64 (runO s most).pc, .int .i64 (runO s most).done, .int .i64 (runO s most).why], .int .i64 (openErr s most)]) ∧ RdSt w' (runO s most) A' ∧ A'.new (runO s most) w.heap.size ∧ Below w.heap.size w w') := by
 have HR := hid hR; have HL := hid hL; clear hR hL
 refine enter_F Tryz.func31 rfl Tryz.ntmps31 (by simp) ?_
 intro s0 hs; have sl0 : s0 0 = .agg #[.slice A.sa s.store.length A.sc, .slice A.ta s.tape.length A.tc, .int .i64 s.taken, .slice A.pa s.printed.length A.pc, .int .i64 s.time, .int .i64 s.pc, .int .i64 s.done, .int .i64 s.why] := hs 0 (by simp); have sl1 : s0 1 = .int .i64 most := hs 1 (by simp); clear hs; have HB := hid (OldB.refl [] w)
 refine nr ?_; intros; refine pa (fun w1 B2 hB kb2 hb2 => ?_); have gb2 := HB.out.gB hB; have eb2 := eB hB; clear hB; replace HB := bE HB hb2; clear hb2; have qb2 := kb2.1; refine pa (fun w3 B4 hB kb4 hb4 => ?_); have gb4 := HB.out.gB hB; have ob2_b4 := oB qb2 hB; have eb4 := eB hB; clear hB; clear qb2; revert HB; revert kb2; refine uA hb4 ?_; clear hb4; intro kb2 qb2 HB; have qb4 := kb4.1; refine pl ?_; clear sl0; refine lx [2,4] ?_; clear sl1; intro s5 sl1 sl2 sl4; refine ln ?_; intros
 by_cases he : openErr s most = 0
 ·skip
  obtain ⟨hok, hm1, hm2⟩ := open_zero.1 he; have HOk := hid hok; obtain ⟨n, rfl⟩ := Int.eq_ofNat_of_zero_le hm1; have Hm := hid (show 0 ≤ (n : Int) ∧ (n : Int) ≤ 5000 from ⟨hm1, hm2⟩)
  have hn5 : n ≤ 5000 := by omega
  have Hr := hid (show runO s n = run4 n s by unfold runO; rw [if_pos he]; rfl); have Hez := hid he; clear hok he; refine region_F ?_; have cb2 := clx kb2; refine P2 ?_; obtain ⟨NO, hNO⟩ : ∃ n, n = w3.heap.size := ⟨_, rfl⟩; have uNO := HB.out.gB hNO; have uNO_b2 := oB qb2 hNO; have uNO_b4 := oB qb4 hNO; refine cal (oopen_ok s A (n : Int) _ (HR.out.old HB.out) HOk.out Hm.out) ?_; rintro e w6 ⟨V, rfl, hM, hb7⟩; rw [← hNO] at hM
  have hNO2 : NO ≤ w6.heap.size := by have := hb7.size; omega
  clear hNO; refine ⟨_, rfl, ?_⟩; clear cb2; clear qb2 qb4; revert HB; revert kb4; revert kb2; refine uA hb7 ?_; clear hb7; intro kb2 qb2 kb4 qb4 HB
  refine P5 ?_
  clear sl2; refine lx [6,7] ?_; clear sl1 sl4; intro s8 sl1 sl4 sl6 sl7; refine lr ?_; intros; refine P2 ?_; refine lx [15] ?_; clear sl1 sl4 sl6 sl7; intro s9 sl1 sl4 sl6 sl7 sl15; refine ln ?_; intros
  refine cond_f ?_
  refine nr ?_; intros; refine P2 ?_; refine cal (orun_Run s _ NO V n _ hM HOk.out hNO2 hn5) ?_; rintro e w10 ⟨rfl, ⟨o9, hM9⟩, hb11⟩; refine ⟨_, rfl, ?_⟩; clear qb2 qb4; replace kb2 := kb2.lowB hb11 uNO_b2; replace kb4 := kb4.lowB hb11 uNO_b4; replace HB := hid (HB.out.lowB hb11 uNO); clear hb11; have qb2 := kb2.1; have qb4 := kb4.1; clear hM; clear sl1 sl7 sl15; refine lx [] ?_; clear sl4 sl6; intro s12 sl4 sl6; refine lr ?_; intros
  refine P3 ?_
  obtain ⟨G, sg, tt, ct, qp, cq, m1, m2, m3, m4, m5, m6, m7, m8, m9, m10, m11⟩ := hM9; clear m7 m8 m11; have kV := m4; clear m4; have qV := kV.1; have cV := clx kV; refine pl ?_; obtain ⟨cb4_0, cb4_1, cb4_2, cb4_3, cb4_4, cb4_5, cb4_6, cb4_7⟩ := cl8 kb4; have zb4 := kb4.2.2; refine pl ?_; refine sto kb4 ?_; clear kb4 cV cb4_0 cb4_1 cb4_2 cb4_3 cb4_4 cb4_5 cb4_6 cb4_7 zb4; intro w13 kb4 hb14; clear qb2 qb4 qV; replace m5 := Cells.oldB m5 hb14 (by simp; omega); replace m6 := Own.oldB m6 hb14 (fun g hg hm => by have := (World.ownsRow.lt m6 g hg).1; simp at hm; omega); replace m9 := Rd.oldN m9 hb14 (fun hl b hb hm => by have := (m10 hl b hb).1; simp at hm; omega); revert HB; revert kV; revert kb2; refine uO hb14 ?_; clear hb14; intro kb2 qb2 kV qV HB; have qb4 := kb4.1; refine pl ?_; clear sl6; refine lx [5] ?_; clear sl4; intro s15 sl4 sl5; refine ln ?_; intros
  obtain ⟨cb4_0, cb4_1, cb4_2, cb4_3, cb4_4, cb4_5, cb4_6, cb4_7⟩ := cl8 kb4; refine XW17b ?_; exact ⟨⟨some ⟨G, 0, none⟩, sg, tt, ct, qp, cq⟩, by rw [Hr.out, Hez.out], by rw [Hr.out]; exact ⟨Cells.rd (f := int1) (m := 1) (fun _ => rfl) m5, m9, Own.rd' (f := int1) (m := 1) (fun _ => rfl) m6 rfl⟩, by rw [Hr.out]; exact fun k hk => ⟨fun _ b hb => by cases hb; show G ≠ k; omega, fun hl b hb => by have := (m10 hl b hb).1; omega, fun hl b hb e => by have := (World.ownsRow.lt m6 k (by rw [show qp = some b from hb, ← e]; rfl)).1; omega⟩, HB.out.toBelow⟩
 ·skip
  have He := hid he
  have hne : (openErr s most != 0) = true := by simpa using he
  have Hr := hid (show runO s most = St4.zero by unfold runO; rw [if_neg he]); clear he; refine region_F ?_; have cb2 := clx kb2; refine P2 ?_; refine cal (oopen_bad s A most _ (HR.out.old HB.out) HL.out He.out) ?_; rintro e w16 ⟨rfl, hb17⟩; refine ⟨_, rfl, ?_⟩; clear cb2; clear qb2 qb4; revert HB; revert kb4; revert kb2; refine uA hb17 ?_; clear hb17; intro kb2 qb2 kb4 qb4 HB
  refine P5 ?_
  clear sl2; refine lx [6,7] ?_; clear sl1 sl4; intro s18 sl1 sl4 sl6 sl7; refine lr ?_; intros; refine P2 ?_; refine lx [15] ?_; clear sl1 sl4 sl6 sl7; intro s19 sl1 sl4 sl6 sl7 sl15; refine ln ?_; intros
  refine cond_t ?_
  refine nr ?_; intros; refine P2 ?_; obtain ⟨cb4_0, cb4_1, cb4_2, cb4_3, cb4_4, cb4_5, cb4_6, cb4_7⟩ := cl8 kb4; have zb4 := kb4.2.2; refine pl ?_; refine sto kb4 ?_; clear kb4 cb4_0 cb4_1 cb4_2 cb4_3 cb4_4 cb4_5 cb4_6 cb4_7 zb4; intro w20 kb4 hb21; clear qb2 qb4; revert HB; revert kb2; refine uO hb21 ?_; clear hb21; intro kb2 qb2 HB; have qb4 := kb4.1; refine pl ?_; clear sl1 sl6 sl7 sl15; refine lx [5] ?_; clear sl4; intro s22 sl4 sl5; refine ln ?_; intros
  obtain ⟨cb4_0, cb4_1, cb4_2, cb4_3, cb4_4, cb4_5, cb4_6, cb4_7⟩ := cl8 kb4; refine XW17b ?_; exact ⟨SA.none, by rw [Hr.out]; rfl, by rw [Hr.out]; exact RdSt.zero _, by rw [Hr.out]; exact fun k hk => ⟨fun h => absurd rfl h, fun h => absurd rfl h, fun h => absurd rfl h⟩, HB.out.toBelow⟩

end Go.Proofs.YtleknidlgmmgbaaGreat
