/- The program's order: what the orders do. -/
import Derived.Test.YtleknidlgmmgbaaGreattbW6
import Derived.Test.YtleknidlgmmgbaaGreattbW12
import Derived.Test.YtleknidlgmmgbaaGreattbCX
import Derived.Test.YtleknidlgmmgbaaGreattbCY
set_option linter.all false
namespace Go.Proofs.YtleknidlgmmgbaaGreat

section
open Go.RowKit


def exL : List Int := [12583560, 0, 0, 0, 0, 0, 0, 0, 10569226, 0, 4278016, 0, 14909453]
def exT : List Int := [3, 4, 16777215]
def exS : St4 := beginS exL exT 0

set_option maxRecDepth 100000 in
set_option maxHeartbeats 8000000 in
theorem lS_any (w : World) :
    Calls Tryz.prog 26 #[] w (fun e w' => ∃ A : SA, e = .returned (.agg #[.slice A.sa exS.store.length A.sc, .slice A.ta exS.tape.length A.tc, .int .i64 exS.taken, .slice A.pa exS.printed.length A.pc, .int .i64 exS.time, .int .i64 exS.pc, .int .i64 exS.done, .int .i64 exS.why]) ∧ RdSt w' exS A ∧ Below w.heap.size w w') := by
 refine enter_F Tryz.func26 rfl Tryz.ntmps26 (by simp) ?_
 intro s0 hs; clear hs; have HB := hid (OldB.refl [] w)
 repeat ((fail_if_success refine stp ?_); go_step)
 refine region_F ?_; refine pa (fun w1 B0 hB kb0' hb2 => ?_); have gb0 := HB.out.gB hB; have eb0 := eB hB; clear hB; replace HB := bE HB hb2; clear hb2; have kb0 := kb0'; clear kb0'; have qb0 := kb0.1; refine lsa fun s3 z' => ?_; have sl0 := gu 0 z'; clear z'; refine lsn ?_
 repeat ((fail_if_success refine stp ?_); go_step)
 refine region_F ?_; refine listF_step rfl (fun K' hK => ?_); refine uponF.mono (fun v w4 h => ?_) (opV_make (k := 13) (d := 4) rfl (by decide) (by decide) rfl); obtain ⟨⟨B4, rfl, gB4, lB4, k4'⟩, hb5⟩ := h; refine hK _ _ ?_; clear hK K'
 have ob0_b4 : B0 < B4 := by omega
 have gb4 : w.heap.size ≤ B4 := by have := HB.out.size; omega
 have k4'' : Cells w4 B4 [.int .i64 0, .int .i64 0, .int .i64 0, .int .i64 0, .int .i64 0, .int .i64 0, .int .i64 0, .int .i64 0, .int .i64 0, .int .i64 0, .int .i64 0, .int .i64 0, .int .i64 0] := k4'; clear k4' gB4 lB4; clear qb0; replace kb0 := kb0.at hb5; replace HB := bE HB hb5; clear hb5; have qb0 := kb0.1; have kb4 := k4''; clear k4''; have qb4 := kb4.1; refine pl ?_; refine lsa fun s6 z' => ?_; replace sl0 := slg z' sl0; have sl1 := gu 1 z'; clear z'; refine lsn ?_
 repeat ((fail_if_success refine stp ?_); go_step)
 refine region_F ?_
 iterate 5 refine pl ?_
 obtain ⟨cb4_0, cb4_1, cb4_2, cb4_3, cb4_4, cb4_5, cb4_6, cb4_7, cb4_8, cb4_9, cb4_10, cb4_11, cb4_12⟩ := cl13 kb4; have zb4 := kb4.2.2; refine pl ?_; refine listF_absw (fun w7 hw' => ?_); have kb4' := cells_of hw' (Cells.set (i := 0) (kb4))
 (try simp only [stC, mC, tC, List.set_cons_zero, List.set_cons_succ] at kb4')
 have hb8 : OldB [B4] w4 w7 := oldset hw'; clear hw'; clear cb4_0 cb4_1 cb4_2 cb4_3 cb4_4 cb4_5 cb4_6 cb4_7 cb4_8 cb4_9 cb4_10 cb4_11 cb4_12 zb4; clear qb0 qb4; replace kb4 := kb4'; replace kb0 := kb0.oB hb8; replace HB := mO HB hb8; clear hb8; have qb0 := kb0.1; have qb4 := kb4.1; clear kb4'; refine pl ?_; obtain ⟨cb4_0, cb4_1, cb4_2, cb4_3, cb4_4, cb4_5, cb4_6, cb4_7, cb4_8, cb4_9, cb4_10, cb4_11, cb4_12⟩ := cl13 kb4; have zb4 := kb4.2.2; refine pl ?_; refine listF_absw (fun w9 hw' => ?_); have kb4' := cells_of hw' (Cells.set (i := 8) (kb4))
 (try simp only [stC, mC, tC, List.set_cons_zero, List.set_cons_succ] at kb4')
 have hb10 : OldB [B4] w7 w9 := oldset hw'; clear hw'; clear cb4_0 cb4_1 cb4_2 cb4_3 cb4_4 cb4_5 cb4_6 cb4_7 cb4_8 cb4_9 cb4_10 cb4_11 cb4_12 zb4; clear qb0 qb4; replace kb4 := kb4'; replace kb0 := kb0.oB hb10; replace HB := mO HB hb10; clear hb10; have qb0 := kb0.1; have qb4 := kb4.1; clear kb4'; refine pl ?_; obtain ⟨cb4_0, cb4_1, cb4_2, cb4_3, cb4_4, cb4_5, cb4_6, cb4_7, cb4_8, cb4_9, cb4_10, cb4_11, cb4_12⟩ := cl13 kb4; have zb4 := kb4.2.2; refine pl ?_; refine listF_absw (fun w11 hw' => ?_); have kb4' := cells_of hw' (Cells.set (i := 10) (kb4))
 (try simp only [stC, mC, tC, List.set_cons_zero, List.set_cons_succ] at kb4')
 have hb12 : OldB [B4] w9 w11 := oldset hw'; clear hw'; clear cb4_0 cb4_1 cb4_2 cb4_3 cb4_4 cb4_5 cb4_6 cb4_7 cb4_8 cb4_9 cb4_10 cb4_11 cb4_12 zb4; clear qb0 qb4; replace kb4 := kb4'; replace kb0 := kb0.oB hb12; replace HB := mO HB hb12; clear hb12; have qb0 := kb0.1; have qb4 := kb4.1; clear kb4'; refine pl ?_; obtain ⟨cb4_0, cb4_1, cb4_2, cb4_3, cb4_4, cb4_5, cb4_6, cb4_7, cb4_8, cb4_9, cb4_10, cb4_11, cb4_12⟩ := cl13 kb4; have zb4 := kb4.2.2; refine pl ?_; refine listF_absw (fun w13 hw' => ?_); have kb4' := cells_of hw' (Cells.set (i := 12) (kb4))
 (try simp only [stC, mC, tC, List.set_cons_zero, List.set_cons_succ] at kb4')
 have hb14 : OldB [B4] w11 w13 := oldset hw'; clear hw'; clear cb4_0 cb4_1 cb4_2 cb4_3 cb4_4 cb4_5 cb4_6 cb4_7 cb4_8 cb4_9 cb4_10 cb4_11 cb4_12 zb4; clear qb0 qb4; replace kb4 := kb4'; replace kb0 := kb0.oB hb14; replace HB := mO HB hb14; clear hb14; have qb0 := kb0.1; have qb4 := kb4.1; clear kb4'; refine lsa fun s15 z' => ?_; replace sl0 := slg z' sl0; replace sl1 := slg z' sl1; clear z'; refine lsn ?_
 repeat ((fail_if_success refine stp ?_); go_step)
 refine region_F ?_; refine pl ?_; refine pas (fun w16 B15 hB kb15' hb17 => ?_); have gb15 := HB.out.gB hB; have ob0_b15 := oB qb0 hB; have ob4_b15 := oB qb4 hB; have eb15 := eB hB; clear hB; clear qb0 qb4; replace kb0 := kb0.at hb17; replace kb4 := kb4.at hb17; replace HB := bE HB hb17; clear hb17; have qb0 := kb0.1; have qb4 := kb4.1; have kb15 := kb15'; clear kb15'; have qb15 := kb15.1; refine cal (rbegin_ok (some ⟨B4, 0, none⟩) 13 exL B15 0 3 exT 0 _ (Cells.rd (f := int1) (m := 1) (l := exL) (fun _ => rfl) kb4) (Cells.rd (f := int1) (m := 1) (l := exT) (fun _ => rfl) kb15) (by decide) (by decide) (by decide) (by decide +kernel) (by decide +kernel) (by decide)) ?_; rintro e w18 ⟨A, rfl, hRS, hf0, hb19⟩; have Hf0 := hid (hf0 B0 (by omega)); have Hf2 := hid (fun k (hk : w18.heap.size ≤ k) => RdSt.freeB (k := k) hRS hk); clear hf0; refine ⟨_, rfl, ?_⟩
 clear qb0 qb4 qb15; replace kb0 := kb0.at hb19; replace kb4 := kb4.at hb19; replace kb15 := kb15.at hb19; replace HB := bE HB hb19; clear hb19; have qb0 := kb0.1; have qb4 := kb4.1; have qb15 := kb15.1; have HL9 := hid (OldB.refl [] w18)
 iterate 3 refine pl ?_
 refine pa (fun w20 B2 hB kb2' hb21 => ?_); have gb2 := HB.out.gB hB; have lHL9_b2 := HL9.out.gB hB; have ob0_b2 := oB qb0 hB; have ob4_b2 := oB qb4 hB; have ob15_b2 := oB qb15 hB; have eb2 := eB hB; clear hB; clear qb0 qb4 qb15; replace kb0 := kb0.at hb21; replace kb4 := kb4.at hb21; replace kb15 := kb15.at hb21; replace hRS := RdSt.at hRS hb21; replace HL9 := bE HL9 hb21; replace HB := bE HB hb21; clear hb21; have qb0 := kb0.1; have qb4 := kb4.1; have qb15 := kb15.1; have kb2 := kb2'; clear kb2'; have qb2 := kb2.1; obtain ⟨cb2_0, cb2_1, cb2_2, cb2_3, cb2_4, cb2_5, cb2_6, cb2_7⟩ := cl8 kb2; have zb2 := kb2.2.2; refine pl ?_; refine listF_absw (fun w22 hw' => ?_); have kb2' := cells_of hw' (Cells.set (i := 7) (Cells.set (i := 6) (Cells.set (i := 5) (Cells.set (i := 4) (Cells.set (i := 3) (Cells.set (i := 2) (Cells.set (i := 1) (Cells.set (i := 0) (kb2)))))))))
 (try simp only [stC, mC, tC, List.set_cons_zero, List.set_cons_succ] at kb2')
 have hb23 : OldB [B2] w20 w22 := oldsetN hw'; clear hw'; clear cb2_0 cb2_1 cb2_2 cb2_3 cb2_4 cb2_5 cb2_6 cb2_7 zb2; clear qb0 qb4 qb15 qb2; replace kb2 := kb2'; replace kb0 := kb0.oB hb23; replace kb4 := kb4.oB hb23; replace kb15 := kb15.oB hb23; replace hRS := RdSt.oldK hRS (by first | exact Hf0.out | exact Hf2.out _ (by omega)) hb23; replace HL9 := mO HL9 hb23; replace HB := mO HB hb23; clear hb23; have qb0 := kb0.1; have qb4 := kb4.1; have qb15 := kb15.1; have qb2 := kb2.1; clear kb2'; refine pl ?_; refine lsa fun s24 z' => ?_; replace sl0 := slg z' sl0; have sl2 := gu 2 z'; clear z' sl1; refine lsn ?_
 repeat ((fail_if_success refine stp ?_); go_step)
 refine region_F ?_; obtain ⟨cb2_0, cb2_1, cb2_2, cb2_3, cb2_4, cb2_5, cb2_6, cb2_7⟩ := cl8 kb2; refine pl ?_; obtain ⟨cb0_0, cb0_1, cb0_2, cb0_3, cb0_4, cb0_5, cb0_6, cb0_7⟩ := cl8 kb0; have zb0 := kb0.2.2; refine pl ?_; refine listF_absw (fun w25 hw' => ?_); have kb0' := cells_of hw' (Cells.set (i := 7) (Cells.set (i := 6) (Cells.set (i := 5) (Cells.set (i := 4) (Cells.set (i := 3) (Cells.set (i := 2) (Cells.set (i := 1) (Cells.set (i := 0) (kb0)))))))))
 (try simp only [stC, mC, tC, List.set_cons_zero, List.set_cons_succ] at kb0')
 have hb26 : OldB [B0] w22 w25 := oldsetN hw'; clear hw'; clear cb0_0 cb0_1 cb0_2 cb0_3 cb0_4 cb0_5 cb0_6 cb0_7 cb2_0 cb2_1 cb2_2 cb2_3 cb2_4 cb2_5 cb2_6 cb2_7 zb0; clear qb0 qb4 qb15 qb2; replace kb0 := kb0'; replace kb4 := kb4.oB hb26; replace kb15 := kb15.oB hb26; replace kb2 := kb2.oB hb26; replace hRS := RdSt.oldK hRS (by first | exact Hf0.out | exact Hf2.out _ (by omega)) hb26; clear HL9; replace HB := mO HB hb26; clear hb26; have qb0 := kb0.1; have qb4 := kb4.1; have qb15 := kb15.1; have qb2 := kb2.1; clear kb0'; refine lsa fun s27 z' => ?_; replace sl0 := slg z' sl0; clear z' sl2; refine lsn ?_
 repeat ((fail_if_success refine stp ?_); go_step)
 obtain ⟨cb0_0, cb0_1, cb0_2, cb0_3, cb0_4, cb0_5, cb0_6, cb0_7⟩ := cl8 kb0; refine ret_F _ (res_c Tryz.results26 ((getD_F (by decide)).trans sl0) (load_t24 cb0_0 cb0_1 cb0_2 cb0_3 cb0_4 cb0_5 cb0_6 cb0_7)) ?_; exact ⟨A, rfl, hRS, HB.out.toBelow⟩
end

section
open Go.RowKit

set_option maxRecDepth 100000 in
set_option maxHeartbeats 1000000 in
theorem ofrom_any (V G sc : Nat) (ta : Option Addr) (nt tc : Nat) (tk : Int) (qa : Option Addr) (np qc : Nat) (tm p dn wy op nx : Int) (f t : Nat) (st : List Int) (w : World) (hV : Cells w V (mC (some ⟨G, 0, none⟩) st.length sc ta nt tc tk qa np qc tm p dn wy op (f : Int) (t : Int) nx)) (hf : f < 128) (hst : Hid (st.length = 128)) :
    Calls Tryz.prog 119 #[.pointer (some ⟨V, 0, none⟩)] w (fun e w' => e = .returned (.pointer (some ⟨G, f, none⟩)) ∧ Below w.heap.size w w') := by
 have hst2 : st.length = 128 := hst.out
 have hfi : (f : Int) < st.length := by omega
 clear hst2; have kV := hV
 refine enter_F Tryz.func119 rfl Tryz.ntmps119 (by simp) ?_
 intro s0 hs; have sl0 : s0 0 = .pointer (some ⟨V, 0, none⟩) := hs 0 (by simp); clear hs; have HB := hid (OldB.refl [] w); have qV := kV.1
 repeat ((fail_if_success refine stp ?_); go_step)
 refine region_F ?_; refine pl ?_; refine lsa fun s1 z' => ?_; replace sl0 := slg z' sl0; clear z'; refine lsn ?_
 repeat ((fail_if_success refine stp ?_); go_step)
 obtain ⟨cV_0, cV_1, cV_2, cV_3, cV_4, cV_5, cV_6, cV_7, cV_8, cV_9, cV_10, cV_11⟩ := cl12 kV; refine regionR_F [] [] [] [.q [], .q [], .q [], .q [], .q [], .q [], .q [], .q [], .q [], .q []] [?v6_0, ?v6_1, ?v6_2, ?v6_3, ?v6_4, ?v6_5, ?v6_6, ?v6_7, ?v6_8, ?v6_9] [fun _ => [], fun _ => [], fun _ => [], fun _ => [], fun _ => [], fun _ => [], fun _ => [], fun _ => [], fun _ => [], fun _ => []] (by kernel_rfl) (by kernel_rfl) (by kernel_rfl) (by kernel_rfl) (by kernel_rfl) (by first | exact List.nodup_nil | exact List.nodup_singleton _ | (simp; done) | (simp; omega)) bc_nil ?walk6 ?dep6
 case walk6 =>
  iterate 10 refine rq ?_
  refine walkR_nil (fun X hX w2 hwz hcz => ?_); clear hX hcz
  (try clear X)
  skip; have hb3 := hwz.unDrew; clear hwz; clear cV_0 cV_1 cV_2 cV_3 cV_4 cV_5 cV_6 cV_7 cV_8 cV_9 cV_10 cV_11; clear qV; replace kV := kV.oB hb3; replace HB := mO HB hb3; clear hb3; have qV := kV.1; refine pl ?_; refine pl ?_; refine lsa fun s4 z' => ?_; have sl2 := gu 2 z'; clear z' sl0; refine lsn ?_
  repeat ((fail_if_success refine stp ?_); go_step)
  refine ret_F _ (res_t Tryz.results119 ((getD_F (by decide)).trans sl2)) ?_; exact ⟨rfl, HB.out.toBelow⟩
 case dep6 =>
   iterate 10 refine dR ?_
   exact depR_nil

set_option maxRecDepth 100000 in
set_option maxHeartbeats 1000000 in
theorem oto_any (V G sc : Nat) (ta : Option Addr) (nt tc : Nat) (tk : Int) (qa : Option Addr) (np qc : Nat) (tm p dn wy op nx : Int) (f t : Nat) (st : List Int) (w : World) (hV : Cells w V (mC (some ⟨G, 0, none⟩) st.length sc ta nt tc tk qa np qc tm p dn wy op (f : Int) (t : Int) nx)) (hf : t < 128) (hst : Hid (st.length = 128)) :
    Calls Tryz.prog 148 #[.pointer (some ⟨V, 0, none⟩)] w (fun e w' => e = .returned (.pointer (some ⟨G, t, none⟩)) ∧ Below w.heap.size w w') := by
 have hst2 : st.length = 128 := hst.out
 have hfi : (t : Int) < st.length := by omega
 clear hst2; have kV := hV
 refine enter_F Tryz.func148 rfl Tryz.ntmps148 (by simp) ?_
 intro s0 hs; have sl0 : s0 0 = .pointer (some ⟨V, 0, none⟩) := hs 0 (by simp); clear hs; have HB := hid (OldB.refl [] w); have qV := kV.1
 repeat ((fail_if_success refine stp ?_); go_step)
 refine region_F ?_; refine pl ?_; refine lsa fun s1 z' => ?_; replace sl0 := slg z' sl0; clear z'; refine lsn ?_
 repeat ((fail_if_success refine stp ?_); go_step)
 obtain ⟨cV_0, cV_1, cV_2, cV_3, cV_4, cV_5, cV_6, cV_7, cV_8, cV_9, cV_10, cV_11⟩ := cl12 kV; refine regionR_F [] [] [] [.q [], .q [], .q [], .q [], .q [], .q [], .q [], .q [], .q [], .q []] [?v7_0, ?v7_1, ?v7_2, ?v7_3, ?v7_4, ?v7_5, ?v7_6, ?v7_7, ?v7_8, ?v7_9] [fun _ => [], fun _ => [], fun _ => [], fun _ => [], fun _ => [], fun _ => [], fun _ => [], fun _ => [], fun _ => [], fun _ => []] (by kernel_rfl) (by kernel_rfl) (by kernel_rfl) (by kernel_rfl) (by kernel_rfl) (by first | exact List.nodup_nil | exact List.nodup_singleton _ | (simp; done) | (simp; omega)) bc_nil ?walk7 ?dep7
 case walk7 =>
  iterate 10 refine rq ?_
  refine walkR_nil (fun X hX w2 hwz hcz => ?_); clear hX hcz
  (try clear X)
  skip; have hb3 := hwz.unDrew; clear hwz; clear cV_0 cV_1 cV_2 cV_3 cV_4 cV_5 cV_6 cV_7 cV_8 cV_9 cV_10 cV_11; clear qV; replace kV := kV.oB hb3; replace HB := mO HB hb3; clear hb3; have qV := kV.1; refine pl ?_; refine pl ?_; refine lsa fun s4 z' => ?_; have sl2 := gu 2 z'; clear z' sl0; refine lsn ?_
  repeat ((fail_if_success refine stp ?_); go_step)
  refine ret_F _ (res_t Tryz.results148 ((getD_F (by decide)).trans sl2)) ?_; exact ⟨rfl, HB.out.toBelow⟩
 case dep7 =>
   iterate 10 refine dR ?_
   exact depR_nil

set_option maxRecDepth 100000 in
set_option maxHeartbeats 4000000 in
theorem omove_any (V G sc : Nat) (ta : Option Addr) (nt tc : Nat) (tk : Int) (qa : Option Addr) (np qc : Nat) (tm p dn wy op nx : Int) (f t : Nat) (st : List Int) (w : World) (hV : Cells w V (mC (some ⟨G, 0, none⟩) st.length sc ta nt tc tk qa np qc tm p dn wy op (f : Int) (t : Int) nx)) (hVG : V ≠ G) (hG : Cells w G (st.flatMap int1)) (hst : Hid (st.length = 128)) (hf : f < 128) (ht : t < 128) (x y : Int) (hx : st.getD f 0 = x) (hy : st.getD t 0 = y) (hxb : 0 ≤ x ∧ x ≤ 16777215) (hyb : 0 ≤ y ∧ y ≤ 16777215) :
    Calls Tryz.prog 121 #[.pointer (some ⟨V, 0, none⟩)] w (fun e w' => e = .returned (.tuple #[]) ∧ Cells w' V (mC (some ⟨G, 0, none⟩) st.length sc ta nt tc tk qa np qc tm p dn wy op (f : Int) (t : Int) nx) ∧ Cells w' G ((st.set t (x)).flatMap int1) ∧ OldB [G] w w') := by
 have Hx := hid hx; have Hy := hid hy; clear hx hy
 have lf : f < st.length := by rw [hst.out]; omega
 have lt : t < st.length := by rw [hst.out]; omega
 have hfi : (f : Int) < st.length := by omega
 have hti : (t : Int) < st.length := by omega
 have hst2 : st.length ≤ 128 := by rw [hst.out]; omega
 have nVG : ¬ V = G := hVG
 have nGV : ¬ G = V := fun e => hVG e.symm
 have kV := hV; have kG := hG
 refine enter_F Tryz.func121 rfl Tryz.ntmps121 (by simp) ?_
 intro s0 hs; have sl0 : s0 0 = .pointer (some ⟨V, 0, none⟩) := hs 0 (by simp); clear hs; have HB := hid (OldB.refl [G] w); have qV := kV.1; have qG := kG.1
 repeat ((fail_if_success refine stp ?_); go_step)
 refine region_F ?_; refine pl ?_; refine listF_step rfl (fun K' hK => ?_); unfold opF; go_simp; refine (oto_any V G sc ta nt tc tk qa np qc tm p dn wy op nx f t st _ kV ht hst).mono ?_; rintro e w1 ⟨rfl, hb2⟩; refine ⟨_, rfl, hK _ _ ?_⟩; clear hK K'; clear qV qG; replace kV := kV.at hb2; replace kG := kG.at hb2; replace HB := bE HB hb2; clear hb2; have qV := kV.1; have qG := kG.1; refine pl ?_; refine listF_step rfl (fun K' hK => ?_); unfold opF; go_simp; refine (ofrom_any V G sc ta nt tc tk qa np qc tm p dn wy op nx f t st _ kV hf hst).mono ?_; rintro e w3 ⟨rfl, hb4⟩; refine ⟨_, rfl, hK _ _ ?_⟩; clear hK K'; clear qV qG; replace kV := kV.at hb4; replace kG := kG.at hb4; replace HB := bE HB hb4; clear hb4; have qV := kV.1; have qG := kG.1; refine pl ?_; have cgf := ints_cell kG lf; rw [← getD_get lf 0, Hx.out] at cgf; refine pl ?_; clear cgf; refine pl ?_; have zG := kG.2.2; have cgt := ints_cell kG lt; refine pl ?_; refine listF_absw ?_
 intro w5 hw'; have kG' := cells_of hw' (Cells.set (kG)); rw [ints_set] at kG'; clear cgt; have hb6 : OldB [G] w3 w5 := oldset hw'; clear hw'; clear zG; clear qV qG; replace kG := kG'; replace kV := kV.oB hb6; replace HB := mO HB hb6; clear hb6; have qV := kV.1; have qG := kG.1; clear kG'; refine lsa fun s7 z' => ?_; clear z' sl0; refine lsn ?_
 repeat ((fail_if_success refine stp ?_); go_step)
 refine norm_F _ (res_none Tryz.results121) ?_; exact ⟨rfl, kV, kG, HB.out⟩

set_option maxRecDepth 100000 in
set_option maxHeartbeats 4000000 in
theorem oadd_any (V G sc : Nat) (ta : Option Addr) (nt tc : Nat) (tk : Int) (qa : Option Addr) (np qc : Nat) (tm p dn wy op nx : Int) (f t : Nat) (st : List Int) (w : World) (hV : Cells w V (mC (some ⟨G, 0, none⟩) st.length sc ta nt tc tk qa np qc tm p dn wy op (f : Int) (t : Int) nx)) (hVG : V ≠ G) (hG : Cells w G (st.flatMap int1)) (hst : Hid (st.length = 128)) (hf : f < 128) (ht : t < 128) (x y : Int) (hx : st.getD f 0 = x) (hy : st.getD t 0 = y) (hxb : 0 ≤ x ∧ x ≤ 16777215) (hyb : 0 ≤ y ∧ y ≤ 16777215) :
    Calls Tryz.prog 122 #[.pointer (some ⟨V, 0, none⟩)] w (fun e w' => e = .returned (.tuple #[]) ∧ Cells w' V (mC (some ⟨G, 0, none⟩) st.length sc ta nt tc tk qa np qc tm p dn wy op (f : Int) (t : Int) nx) ∧ Cells w' G ((st.set t ((x + y) % 16777216)).flatMap int1) ∧ OldB [G] w w') := by
 have Hx := hid hx; have Hy := hid hy; clear hx hy
 have lf : f < st.length := by rw [hst.out]; omega
 have lt : t < st.length := by rw [hst.out]; omega
 have hfi : (f : Int) < st.length := by omega
 have hti : (t : Int) < st.length := by omega
 have hst2 : st.length ≤ 128 := by rw [hst.out]; omega
 have nVG : ¬ V = G := hVG
 have nGV : ¬ G = V := fun e => hVG e.symm
 have wa : IntKind.i64.wrap (y + x) = y + x := IntWalk.i64_in _ (by omega); have hb := i64_andW (y + x)
 have hc : (y + x) % 16777216 = (x + y) % 16777216 := by rw [Int.add_comm]
 rw [hc] at hb; clear hc; have kV := hV; have kG := hG
 refine enter_F Tryz.func122 rfl Tryz.ntmps122 (by simp) ?_
 intro s0 hs; have sl0 : s0 0 = .pointer (some ⟨V, 0, none⟩) := hs 0 (by simp); clear hs; have HB := hid (OldB.refl [G] w); have qV := kV.1; have qG := kG.1
 repeat ((fail_if_success refine stp ?_); go_step)
 have cgf := ints_cell kG lf; have cgt := ints_cell kG lt; rw [← getD_get lf 0, Hx.out] at cgf; rw [← getD_get lt 0, Hy.out] at cgt; obtain ⟨cV_0, cV_1, cV_2, cV_3, cV_4, cV_5, cV_6, cV_7, cV_8, cV_9, cV_10, cV_11⟩ := cl12 kV; refine regionR_F [] [] [] [.q [], .q [], .q [], .q [], .q [], .q [], .q [], .q [], .q [], .q []] [?v8_0, ?v8_1, ?v8_2, ?v8_3, ?v8_4, ?v8_5, ?v8_6, ?v8_7, ?v8_8, ?v8_9] [fun _ => [], fun _ => [], fun _ => [], fun _ => [], fun _ => [], fun _ => [], fun _ => [], fun _ => [], fun _ => [], fun _ => []] (by kernel_rfl) (by kernel_rfl) (by kernel_rfl) (by kernel_rfl) (by kernel_rfl) (by first | exact List.nodup_nil | exact List.nodup_singleton _ | (simp; done) | (simp; omega)) bc_nil ?walk8 ?dep8
 case walk8 =>
  refine rq ?_; refine walkR_q (by rfl) (fun X hX wq hwq hrq => ?_) ?_
  · obtain ⟨hcq, hfq⟩ := hwq.b0
    clear hrq; go_simp
    (with_reducible exact (oto_any V G sc ta nt tc tk qa np qc tm p dn wy op nx f t st _ (kV.oldB hwq.unDrew (by simp)) ht hst))
  refine rq ?_; refine walkR_q (by rfl) (fun X hX wq hwq hrq => ?_) ?_
  · obtain ⟨hcq, hfq⟩ := hwq.b0
    clear hrq; go_simp
    (with_reducible exact (oto_any V G sc ta nt tc tk qa np qc tm p dn wy op nx f t st _ (kV.oldB hwq.unDrew (by simp)) ht hst))
  iterate 3 refine rq ?_
  refine walkR_q (by rfl) (fun X hX wq hwq hrq => ?_) ?_
  · obtain ⟨hcq, hfq⟩ := hwq.b0
    clear hrq; go_simp
    (with_reducible exact (ofrom_any V G sc ta nt tc tk qa np qc tm p dn wy op nx f t st _ (kV.oldB hwq.unDrew (by simp)) hf hst))
  refine rq ?_; refine rq ?_; refine walkR_nil (fun X hX w1 hwz hcz => ?_); clear hX hcz
  (try clear X)
  skip; have hb2 := hwz.unDrew; clear hwz; clear cV_0 cV_1 cV_2 cV_3 cV_4 cV_5 cV_6 cV_7 cV_8 cV_9 cV_10 cV_11; clear qV qG; replace kV := kV.oB hb2; replace kG := kG.oB hb2; replace HB := mO HB hb2; clear hb2; have qV := kV.1; have qG := kG.1; clear cgf cgt
  iterate 3 refine pl ?_
  have zG := kG.2.2; have cgt := ints_cell kG lt; refine pl ?_; refine listF_absw ?_; intro w3 hw'; have kG' := cells_of hw' (Cells.set (kG)); rw [ints_set] at kG'; clear cgt; have hb4 : OldB [G] w1 w3 := oldset hw'; clear hw'; clear zG; clear qV qG; replace kG := kG'; replace kV := kV.oB hb4; replace HB := mO HB hb4; clear hb4; have qV := kV.1; have qG := kG.1; clear kG'; refine lsa fun s5 z' => ?_; clear z' sl0; refine lsn ?_
  repeat ((fail_if_success refine stp ?_); go_step)
  refine norm_F _ (res_none Tryz.results122) ?_; exact ⟨rfl, kV, kG, HB.out⟩
 case dep8 =>
   iterate 10 refine dR ?_
   exact depR_nil

set_option maxRecDepth 100000 in
set_option maxHeartbeats 4000000 in
theorem osub_any (V G sc : Nat) (ta : Option Addr) (nt tc : Nat) (tk : Int) (qa : Option Addr) (np qc : Nat) (tm p dn wy op nx : Int) (f t : Nat) (st : List Int) (w : World) (hV : Cells w V (mC (some ⟨G, 0, none⟩) st.length sc ta nt tc tk qa np qc tm p dn wy op (f : Int) (t : Int) nx)) (hVG : V ≠ G) (hG : Cells w G (st.flatMap int1)) (hst : Hid (st.length = 128)) (hf : f < 128) (ht : t < 128) (x y : Int) (hx : st.getD f 0 = x) (hy : st.getD t 0 = y) (hxb : 0 ≤ x ∧ x ≤ 16777215) (hyb : 0 ≤ y ∧ y ≤ 16777215) :
    Calls Tryz.prog 123 #[.pointer (some ⟨V, 0, none⟩)] w (fun e w' => e = .returned (.tuple #[]) ∧ Cells w' V (mC (some ⟨G, 0, none⟩) st.length sc ta nt tc tk qa np qc tm p dn wy op (f : Int) (t : Int) nx) ∧ Cells w' G ((st.set t ((y - x) % 16777216)).flatMap int1) ∧ OldB [G] w w') := by
 have Hx := hid hx; have Hy := hid hy; clear hx hy
 have lf : f < st.length := by rw [hst.out]; omega
 have lt : t < st.length := by rw [hst.out]; omega
 have hfi : (f : Int) < st.length := by omega
 have hti : (t : Int) < st.length := by omega
 have hst2 : st.length ≤ 128 := by rw [hst.out]; omega
 have nVG : ¬ V = G := hVG
 have nGV : ¬ G = V := fun e => hVG e.symm
 have wa : IntKind.i64.wrap (y - x) = y - x := IntWalk.i64_in _ (by omega); have hb := i64_andW (y - x); have kV := hV; have kG := hG
 refine enter_F Tryz.func123 rfl Tryz.ntmps123 (by simp) ?_
 intro s0 hs; have sl0 : s0 0 = .pointer (some ⟨V, 0, none⟩) := hs 0 (by simp); clear hs; have HB := hid (OldB.refl [G] w); have qV := kV.1; have qG := kG.1
 repeat ((fail_if_success refine stp ?_); go_step)
 have cgf := ints_cell kG lf; have cgt := ints_cell kG lt; rw [← getD_get lf 0, Hx.out] at cgf; rw [← getD_get lt 0, Hy.out] at cgt; obtain ⟨cV_0, cV_1, cV_2, cV_3, cV_4, cV_5, cV_6, cV_7, cV_8, cV_9, cV_10, cV_11⟩ := cl12 kV; refine regionR_F [] [] [] [.q [], .q [], .q [], .q [], .q [], .q [], .q [], .q [], .q [], .q []] [?v9_0, ?v9_1, ?v9_2, ?v9_3, ?v9_4, ?v9_5, ?v9_6, ?v9_7, ?v9_8, ?v9_9] [fun _ => [], fun _ => [], fun _ => [], fun _ => [], fun _ => [], fun _ => [], fun _ => [], fun _ => [], fun _ => [], fun _ => []] (by kernel_rfl) (by kernel_rfl) (by kernel_rfl) (by kernel_rfl) (by kernel_rfl) (by first | exact List.nodup_nil | exact List.nodup_singleton _ | (simp; done) | (simp; omega)) bc_nil ?walk9 ?dep9
 case walk9 =>
  refine rq ?_; refine walkR_q (by rfl) (fun X hX wq hwq hrq => ?_) ?_
  · obtain ⟨hcq, hfq⟩ := hwq.b0
    clear hrq; go_simp
    (with_reducible exact (oto_any V G sc ta nt tc tk qa np qc tm p dn wy op nx f t st _ (kV.oldB hwq.unDrew (by simp)) ht hst))
  refine rq ?_; refine walkR_q (by rfl) (fun X hX wq hwq hrq => ?_) ?_
  · obtain ⟨hcq, hfq⟩ := hwq.b0
    clear hrq; go_simp
    (with_reducible exact (oto_any V G sc ta nt tc tk qa np qc tm p dn wy op nx f t st _ (kV.oldB hwq.unDrew (by simp)) ht hst))
  iterate 3 refine rq ?_
  refine walkR_q (by rfl) (fun X hX wq hwq hrq => ?_) ?_
  · obtain ⟨hcq, hfq⟩ := hwq.b0
    clear hrq; go_simp
    (with_reducible exact (ofrom_any V G sc ta nt tc tk qa np qc tm p dn wy op nx f t st _ (kV.oldB hwq.unDrew (by simp)) hf hst))
  refine rq ?_; refine rq ?_; refine walkR_nil (fun X hX w1 hwz hcz => ?_); clear hX hcz
  (try clear X)
  skip; have hb2 := hwz.unDrew; clear hwz; clear cV_0 cV_1 cV_2 cV_3 cV_4 cV_5 cV_6 cV_7 cV_8 cV_9 cV_10 cV_11; clear qV qG; replace kV := kV.oB hb2; replace kG := kG.oB hb2; replace HB := mO HB hb2; clear hb2; have qV := kV.1; have qG := kG.1; clear cgf cgt
  iterate 3 refine pl ?_
  have zG := kG.2.2; have cgt := ints_cell kG lt; refine pl ?_; refine listF_absw ?_; intro w3 hw'; have kG' := cells_of hw' (Cells.set (kG)); rw [ints_set] at kG'; clear cgt; have hb4 : OldB [G] w1 w3 := oldset hw'; clear hw'; clear zG; clear qV qG; replace kG := kG'; replace kV := kV.oB hb4; replace HB := mO HB hb4; clear hb4; have qV := kV.1; have qG := kG.1; clear kG'; refine lsa fun s5 z' => ?_; clear z' sl0; refine lsn ?_
  repeat ((fail_if_success refine stp ?_); go_step)
  refine norm_F _ (res_none Tryz.results123) ?_; exact ⟨rfl, kV, kG, HB.out⟩
 case dep9 =>
   iterate 10 refine dR ?_
   exact depR_nil

set_option maxRecDepth 100000 in
set_option maxHeartbeats 4000000 in
theorem omul_any (V G sc : Nat) (ta : Option Addr) (nt tc : Nat) (tk : Int) (qa : Option Addr) (np qc : Nat) (tm p dn wy op nx : Int) (f t : Nat) (st : List Int) (w : World) (hV : Cells w V (mC (some ⟨G, 0, none⟩) st.length sc ta nt tc tk qa np qc tm p dn wy op (f : Int) (t : Int) nx)) (hVG : V ≠ G) (hG : Cells w G (st.flatMap int1)) (hst : Hid (st.length = 128)) (hf : f < 128) (ht : t < 128) (x y : Int) (hx : st.getD f 0 = x) (hy : st.getD t 0 = y) (hxb : 0 ≤ x ∧ x ≤ 16777215) (hyb : 0 ≤ y ∧ y ≤ 16777215) :
    Calls Tryz.prog 124 #[.pointer (some ⟨V, 0, none⟩)] w (fun e w' => e = .returned (.tuple #[]) ∧ Cells w' V (mC (some ⟨G, 0, none⟩) st.length sc ta nt tc tk qa np qc tm p dn wy op (f : Int) (t : Int) nx) ∧ Cells w' G ((st.set t (prodI x y)).flatMap int1) ∧ OldB [G] w w') := by
 have Hx := hid hx; have Hy := hid hy; clear hx hy
 have lf : f < st.length := by rw [hst.out]; omega
 have lt : t < st.length := by rw [hst.out]; omega
 have hfi : (f : Int) < st.length := by omega
 have hti : (t : Int) < st.length := by omega
 have hst2 : st.length ≤ 128 := by rw [hst.out]; omega
 have nVG : ¬ V = G := hVG
 have nGV : ¬ G = V := fun e => hVG e.symm
 have hs := sprod_bd hxb hyb; have wm : IntKind.i64.wrap (signI x * signI y) = signI x * signI y := IntWalk.i64_in _ (by omega); have hfd : (signI x * signI y).fdiv 8388608 = signI x * signI y / 8388608 := Int.fdiv_eq_ediv_of_nonneg _ (by decide); have hb : bits .and .i64 (signI x * signI y / 8388608) 16777215 = prodI x y := i64_andW _; clear hs; have kV := hV; have kG := hG
 refine enter_F Tryz.func124 rfl Tryz.ntmps124 (by simp) ?_
 intro s0 hs; have sl0 : s0 0 = .pointer (some ⟨V, 0, none⟩) := hs 0 (by simp); clear hs; have HB := hid (OldB.refl [G] w); have qV := kV.1; have qG := kG.1
 repeat ((fail_if_success refine stp ?_); go_step)
 refine region_F ?_; refine pl ?_; refine listF_step rfl (fun K' hK => ?_); unfold opF; go_simp; refine (oto_any V G sc ta nt tc tk qa np qc tm p dn wy op nx f t st _ kV ht hst).mono ?_; rintro e w1 ⟨rfl, hb2⟩; refine ⟨_, rfl, hK _ _ ?_⟩; clear hK K'; clear qV qG; replace kV := kV.at hb2; replace kG := kG.at hb2; replace HB := bE HB hb2; clear hb2; have qV := kV.1; have qG := kG.1; refine pl ?_; refine listF_step rfl (fun K' hK => ?_); unfold opF; go_simp; refine (ofrom_any V G sc ta nt tc tk qa np qc tm p dn wy op nx f t st _ kV hf hst).mono ?_; rintro e w3 ⟨rfl, hb4⟩; refine ⟨_, rfl, hK _ _ ?_⟩; clear hK K'; clear qV qG; replace kV := kV.at hb4; replace kG := kG.at hb4; replace HB := bE HB hb4; clear hb4; have qV := kV.1; have qG := kG.1; refine pl ?_; have cgf := ints_cell kG lf; rw [← getD_get lf 0, Hx.out] at cgf; refine pl ?_; clear cgf; refine listF_step rfl (fun K' hK => ?_); unfold opF; go_simp; refine (signed_any x _ hxb).mono ?_; rintro e w' ⟨rfl, rfl⟩
 refine ⟨_, rfl, hK _ _ ?_⟩; clear hK K'; refine pl ?_; refine listF_step rfl (fun K' hK => ?_); unfold opF; go_simp; refine (oto_any V G sc ta nt tc tk qa np qc tm p dn wy op nx f t st _ kV ht hst).mono ?_; rintro e w6 ⟨rfl, hb7⟩; refine ⟨_, rfl, hK _ _ ?_⟩; clear hK K'; clear qV qG; replace kV := kV.at hb7; replace kG := kG.at hb7; replace HB := bE HB hb7; clear hb7; have qV := kV.1; have qG := kG.1; refine pl ?_; have cgt := ints_cell kG lt; rw [← getD_get lt 0, Hy.out] at cgt; refine pl ?_; clear cgt; refine listF_step rfl (fun K' hK => ?_); unfold opF; go_simp; refine (signed_any y _ hyb).mono ?_; rintro e w' ⟨rfl, rfl⟩; refine ⟨_, rfl, hK _ _ ?_⟩; clear hK K'
 iterate 4 refine pl ?_
 have zG := kG.2.2; have cgt := ints_cell kG lt; refine pl ?_; refine listF_absw ?_; intro w9 hw'; have kG' := cells_of hw' (Cells.set (kG)); rw [ints_set] at kG'; clear cgt; have hb10 : OldB [G] w6 w9 := oldset hw'; clear hw'; clear zG; clear qV qG; replace kG := kG'; replace kV := kV.oB hb10; replace HB := mO HB hb10; clear hb10; have qV := kV.1; have qG := kG.1; clear kG'; refine lsa fun s11 z' => ?_; clear z' sl0; refine lsn ?_
 repeat ((fail_if_success refine stp ?_); go_step)
 refine norm_F _ (res_none Tryz.results124) ?_; exact ⟨rfl, kV, kG, HB.out⟩

set_option maxRecDepth 100000 in
set_option maxHeartbeats 4000000 in
theorem oread_any (V G sc : Nat) (ta : Option Addr) (nt tc : Nat) (tk : Nat) (qa : Option Addr) (np qc : Nat) (tm p dn wy op nx : Int) (f t : Nat) (st : List Int) (w : World) (hV : Cells w V (mC (some ⟨G, 0, none⟩) st.length sc ta nt tc (tk : Int) qa np qc tm p dn wy op (f : Int) (t : Int) nx)) (hVG : V ≠ G) (hG : Cells w G (st.flatMap int1)) (hst : Hid (st.length = 128)) (tp : List Int) (hnt : nt = tp.length) (hf : f < 128) (ht : t < 128) (htk : tk < tp.length) (htl : tp.length ≤ 200) (x : Int) (hx : tp.getD tk 0 = x) (hRt : RdInts w ta tp) (htV : ∀ b, ta = some b → b.block ≠ V ∧ b.block ≠ G) :
    Calls Tryz.prog 125 #[.pointer (some ⟨V, 0, none⟩)] w (fun e w' => e = .returned (.tuple #[]) ∧ Cells w' V (mC (some ⟨G, 0, none⟩) st.length sc ta nt tc ((tk : Int) + 1) qa np qc tm p dn wy op (f : Int) (t : Int) nx) ∧ Cells w' G ((st.set t x).flatMap int1) ∧ OldB [V, G] w w') := by
 subst hnt; have Hx := hid hx; have HRt := hid hRt; clear hx hRt
 have lf : f < st.length := by rw [hst.out]; omega
 have lt : t < st.length := by rw [hst.out]; omega
 have hfi : (f : Int) < st.length := by omega
 have hti : (t : Int) < st.length := by omega
 have hst2 : st.length ≤ 128 := by rw [hst.out]; omega
 have nVG : ¬ V = G := hVG
 have nGV : ¬ G = V := fun e => hVG e.symm
 have hti2 : (tk : Int) < tp.length := by omega
 have wtk : IntKind.i64.wrap ((tk : Int) + 1) = tk + 1 := IntWalk.i64_in _ (by omega); obtain ⟨bt, ot, hat, hbt, c0⟩ := RdInts.ne HRt.out htk; subst hat; rw [← getD_get htk 0, Hx.out] at c0; have kV := hV; have kG := hG
 refine enter_F Tryz.func125 rfl Tryz.ntmps125 (by simp) ?_
 intro s0 hs; have sl0 : s0 0 = .pointer (some ⟨V, 0, none⟩) := hs 0 (by simp); clear hs; have HB := hid (OldB.refl [V, G] w); have qV := kV.1; have qG := kG.1
 repeat ((fail_if_success refine stp ?_); go_step)
 obtain ⟨cV_0, cV_1, cV_2, cV_3, cV_4, cV_5, cV_6, cV_7, cV_8, cV_9, cV_10, cV_11⟩ := cl12 kV; refine regionR_F [] [] [] [.q [], .q [], .q [], .q [], .q [], .q [], .q [], .q [], .q [], .q [], .q [], .q [], .q [], .q []] [?v10_0, ?v10_1, ?v10_2, ?v10_3, ?v10_4, ?v10_5, ?v10_6, ?v10_7, ?v10_8, ?v10_9, ?v10_10, ?v10_11, ?v10_12, ?v10_13] [fun _ => [], fun _ => [], fun _ => [], fun _ => [], fun _ => [], fun _ => [], fun _ => [], fun _ => [], fun _ => [], fun _ => [], fun _ => [], fun _ => [], fun _ => [], fun _ => []] (by kernel_rfl) (by kernel_rfl) (by kernel_rfl) (by kernel_rfl) (by kernel_rfl) (by first | exact List.nodup_nil | exact List.nodup_singleton _ | (simp; done) | (simp; omega)) bc_nil ?walk10 ?dep10
 case walk10 =>
  refine rq ?_; refine walkR_q (by rfl) (fun X hX wq hwq hrq => ?_) ?_
  · obtain ⟨hcq, hfq⟩ := hwq.b0
    clear hrq; go_simp
    (with_reducible exact (oto_any V G sc (some ⟨bt, ot, none⟩) tp.length tc (tk : Int) qa np qc tm p dn wy op nx f t st _ (kV.oldB hwq.unDrew (by simp)) ht hst))
  iterate 12 refine rq ?_
  refine walkR_nil (fun X hX w1 hwz hcz => ?_); clear hX hcz
  (try clear X)
  skip; have hb2 := hwz.unDrew; clear hwz; clear cV_0 cV_1 cV_2 cV_3 cV_4 cV_5 cV_6 cV_7 cV_8 cV_9 cV_10 cV_11; clear qV qG; replace kV := kV.oB hb2; replace kG := kG.oB hb2; replace HB := mO HB hb2; clear hb2; have qV := kV.1; have qG := kG.1; clear c0; refine pl ?_; have zG := kG.2.2; have cgt := ints_cell kG lt; refine pl ?_; refine listF_absw ?_; intro w3 hw'; have kG' := cells_of hw' (Cells.set (kG)); rw [ints_set] at kG'; clear cgt; have hb4 : OldB [G] w1 w3 := oldset hw'; clear hw'; clear zG; clear qV qG; replace kG := kG'; replace kV := kV.oB hb4; replace HB := mO HB hb4; clear hb4; have qV := kV.1; have qG := kG.1; clear kG'; refine lsa fun s5 z' => ?_; replace sl0 := slg z' sl0; clear z'; refine lsn ?_
  repeat ((fail_if_success refine stp ?_); go_step)
  refine region_F ?_
  iterate 4 refine pl ?_
  obtain ⟨cV_0, cV_1, cV_2, cV_3, cV_4, cV_5, cV_6, cV_7, cV_8, cV_9, cV_10, cV_11⟩ := cl12 kV
  iterate 5 refine pl ?_
  have zV := kV.2.2; refine pl ?_; refine listF_absw (fun w6 hw' => ?_); have kV' := cells_of hw' (Cells.set (i := 2) (kV))
  (try simp only [stC, mC, List.set_cons_zero, List.set_cons_succ] at kV')
  have hb7 : OldB [V] w3 w6 := oldset hw'; clear hw'; clear cV_0 cV_1 cV_2 cV_3 cV_4 cV_5 cV_6 cV_7 cV_8 cV_9 cV_10 cV_11 zV; clear qV qG; replace kV := kV'; replace kG := kG.oB hb7; replace HB := mO HB hb7; clear hb7; have qV := kV.1; have qG := kG.1; clear kV'; refine lsa fun s8 z' => ?_; clear z' sl0; refine lsn ?_
  repeat ((fail_if_success refine stp ?_); go_step)
  refine norm_F _ (res_none Tryz.results125) ?_; exact ⟨rfl, kV, kG, HB.out⟩
 case dep10 =>
   iterate 14 refine dR ?_
   exact depR_nil
end


end Go.Proofs.YtleknidlgmmgbaaGreat
