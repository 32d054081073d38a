/- The program: seal, Seal. -/
import Derived.Test.YtleknidlgmmgbaaGreattbW23
import Derived.Test.YtleknidlgmmgbaaGreattbCX
set_option linter.all false
namespace Go.Proofs.YtleknidlgmmgbaaGreat

open Go.RowKit


theorem sealF_snoc (n : Int) (l : List Int) (x : Int) : sealF n (l ++ [x]) = (sealF n l * 1009 + x) % 16777259 := by unfold sealF; rw [List.foldl_append]; rfl
theorem sealF_bd {n : Int} (hn : 0 ≤ n ∧ n < 16777259) (l : List Int) : 0 ≤ sealF n l ∧ sealF n l < 16777259 := by
  unfold sealF
  induction l generalizing n with
  | nil => exact hn
  | cons x l ih => exact ih (n := (n * 1009 + x) % 16777259) (by omega)
theorem sealL_in {s : St4} (hO : OkI s) : ∀ x ∈ sealL s, 0 ≤ x ∧ x ≤ 16777215 := by
  intro x hx; unfold sealL at hx; have h1 := hO.tk; have h2 := hO.l1; have h3 := hO.l2; have h4 := hO.wy
  simp only [List.mem_append, List.mem_cons, List.not_mem_nil, or_false] at hx
  rcases hx with ((h | h | h) | h) | h
  · exact hO.w0 x h
  · omega
  · omega
  · exact hO.w2 x h
  · omega
theorem sealL_len {s : St4} (hO : OkI s) : (sealL s).length ≤ 400 := by
  have h0 := hO.l0; have h3 := hO.l2; unfold sealL; simp; omega
theorem concat_seal (s : St4) (A : SA) (B15 B20 B21 : Nat) (w : World) (hR : RdSt w s A) (hO : OkI s) (h15 : Cells w B15 [.int .i64 s.taken, .int .i64 (s.printed.length : Int)]) (h20 : Cells w B20 [.int .i64 s.why])
    (h21 : Cells w B21 [.slice A.sa s.store.length A.sc, .slice (some ⟨B15, 0, none⟩) 2 2, .slice A.pa s.printed.length A.pc, .slice (some ⟨B20, 0, none⟩) 1 1]) :
    Calls Tryz.prog 104 #[.slice (some ⟨B21, 0, none⟩) 4 4] w (fun e w' => ∃ v, e = .returned v ∧ Own int1 1 3 w.heap.size w' v (sealL s) ∧ Below w.heap.size w w') := by
  have hc : catL [⟨A.sa, A.sc, s.store⟩, ⟨some ⟨B15, 0, none⟩, 2, [s.taken, (s.printed.length : Int)]⟩, ⟨A.pa, A.pc, s.printed⟩, ⟨some ⟨B20, 0, none⟩, 1, [s.why]⟩] 4 = sealL s := by simp [catL, sealL]
  have h := concat_any (some ⟨B21, 0, none⟩) 4 [⟨A.sa, A.sc, s.store⟩, ⟨some ⟨B15, 0, none⟩, 2, [s.taken, (s.printed.length : Int)]⟩, ⟨A.pa, A.pc, s.printed⟩, ⟨some ⟨B20, 0, none⟩, 1, [s.why]⟩] w
    (Cells.rd (f := SlI.cs) (m := 1) (l := [⟨A.sa, A.sc, s.store⟩, ⟨some ⟨B15, 0, none⟩, 2, [s.taken, (s.printed.length : Int)]⟩, ⟨A.pa, A.pc, s.printed⟩, ⟨some ⟨B20, 0, none⟩, 1, [s.why]⟩]) (fun _ => rfl) h21)
    (by
      intro x hx
      simp only [List.mem_cons, List.not_mem_nil, or_false] at hx
      rcases hx with rfl | rfl | rfl | rfl
      · exact hR.st
      · exact Cells.rd (f := int1) (m := 1) (l := [s.taken, (s.printed.length : Int)]) (fun _ => rfl) h15
      · exact hR.pr
      · exact Cells.rd (f := int1) (m := 1) (l := [s.why]) (fun _ => rfl) h20)
    (by show (catL _ 4).length ≤ 1000; rw [hc]; have := sealL_len hO; omega) (by simp)
  have e4 : ([⟨A.sa, A.sc, s.store⟩, ⟨some ⟨B15, 0, none⟩, 2, [s.taken, (s.printed.length : Int)]⟩, ⟨A.pa, A.pc, s.printed⟩, ⟨some ⟨B20, 0, none⟩, 1, [s.why]⟩] : List SlI).length = 4 := rfl; rw [e4, hc] at h; exact h

set_option maxRecDepth 100000 in
set_option maxHeartbeats 8000000 in
theorem seal_any (s : St4) (A : SA) (w : World) (hR : RdSt w s A) (hO : OkI s) :
    Calls Tryz.prog 76 #[.agg #[.slice A.sa s.store.length A.sc, .slice A.ta s.tape.length A.tc, .int .i64 s.taken, .slice A.pa s.printed.length A.pc, .int .i64 s.time, .int .i64 s.pc, .int .i64 s.done, .int .i64 s.why]] w (fun e w' => e = .returned (.int .i64 (sealI' s)) ∧ Below w.heap.size w w') := by
 have HR := hid hR; have HO := hid hO; clear hR hO; have hp := HO.out.pc; have hln := sealL_len HO.out
 refine enter_F Tryz.func76 rfl Tryz.ntmps76 (by simp) ?_
 intro s0 hs; have sl0 : s0 0 = .agg #[.slice A.sa s.store.length A.sc, .slice A.ta s.tape.length A.tc, .int .i64 s.taken, .slice A.pa s.printed.length A.pc, .int .i64 s.time, .int .i64 s.pc, .int .i64 s.done, .int .i64 s.why] := hs 0 (by simp); clear hs; have HB := hid (OldB.refl [] w)
 repeat ((fail_if_success refine stp ?_); go_step)
 refine region_F ?_; refine pa (fun w1 B1 hB kb1' hb2 => ?_); have gb1 := HB.out.gB hB; have eb1 := eB hB; clear hB; replace HB := bE HB hb2; clear hb2; have kb1 := kb1'; clear kb1'; have qb1 := kb1.1; refine pl ?_; refine lsa fun s3 z' => ?_; have sl1 := gu 1 z'; clear z' sl0; refine lsn ?_
 repeat ((fail_if_success refine stp ?_); go_step)
 refine region_F ?_; refine pl ?_; obtain ⟨cb1_0, cb1_1, cb1_2, cb1_3, cb1_4, cb1_5, cb1_6, cb1_7⟩ := cl8 kb1; refine pl ?_; refine pl ?_; refine lsa fun s4 z' => ?_; replace sl1 := slg z' sl1; have sl3 := gu 3 z'; clear z'; refine lsn ?_
 repeat ((fail_if_success refine stp ?_); go_step)
 refine region_F ?_
 iterate 7 refine pl ?_
 refine pas (fun w5 B15 hB kb15' hb6 => ?_); have gb15 := HB.out.gB hB; have ob1_b15 := oB qb1 hB; have eb15 := eB hB; clear hB; clear cb1_0 cb1_1 cb1_2 cb1_3 cb1_4 cb1_5 cb1_6 cb1_7; clear qb1; replace kb1 := kb1.at hb6; replace HB := bE HB hb6; clear hb6; have qb1 := kb1.1; have kb15 := kb15'; clear kb15'; have qb15 := kb15.1; refine pl ?_; obtain ⟨cb1_0, cb1_1, cb1_2, cb1_3, cb1_4, cb1_5, cb1_6, cb1_7⟩ := cl8 kb1
 iterate 3 refine pl ?_
 refine pas (fun w7 B20 hB kb20' hb8 => ?_); have gb20 := HB.out.gB hB; have ob1_b20 := oB qb1 hB; have ob15_b20 := oB qb15 hB; have eb20 := eB hB; clear hB; clear cb1_0 cb1_1 cb1_2 cb1_3 cb1_4 cb1_5 cb1_6 cb1_7; clear qb1 qb15; replace kb1 := kb1.at hb8; replace kb15 := kb15.at hb8; replace HB := bE HB hb8; clear hb8; have qb1 := kb1.1; have qb15 := kb15.1; have kb20 := kb20'; clear kb20'; have qb20 := kb20.1; refine pas (fun w9 B21 hB kb21' hb10 => ?_); have gb21 := HB.out.gB hB; have ob1_b21 := oB qb1 hB; have ob15_b21 := oB qb15 hB; have ob20_b21 := oB qb20 hB; have eb21 := eB hB; clear hB; clear qb1 qb15 qb20; replace kb1 := kb1.at hb10; replace kb15 := kb15.at hb10; replace kb20 := kb20.at hb10; replace HB := bE HB hb10; clear hb10; have qb1 := kb1.1; have qb15 := kb15.1; have qb20 := kb20.1; have kb21 := kb21'; clear kb21'; have qb21 := kb21.1; refine cal (concat_seal s A B15 B20 B21 _ (HR.out.old HB.out) HO.out kb15 kb20 kb21) ?_; rintro e w11 ⟨v22, rfl, hO22, hb12⟩
 obtain ⟨a22, c22, rfl, hr22, -⟩ := Own.slice (f := int1) (m := 1) (fun _ => rfl) hO22; clear hO22; refine ⟨_, rfl, ?_⟩; clear qb1 qb15 qb20 qb21; replace kb1 := kb1.at hb12; replace kb15 := kb15.at hb12; replace kb20 := kb20.at hb12; replace kb21 := kb21.at hb12; replace HB := bE HB hb12; clear hb12; have qb1 := kb1.1; have qb15 := kb15.1; have qb20 := kb20.1; have qb21 := kb21.1; refine pl ?_; refine pl ?_; refine lsa fun s13 z' => ?_; replace sl3 := slg z' sl3; have sl22 := gu 22 z'; have sl23 := gu 23 z'; have sl24 := gu 24 z'; clear z' sl1; refine lsn ?_
 repeat ((fail_if_success refine stp ?_); go_step)
 have hc0_22 := hid sl22; have hc0_23 := hid sl23; refine loop_F (n := 35) (fun kJ sJ wJ => ∃ (i : Nat), kJ = (sealL s).length - i ∧ sJ 3 = .int .i64 (sealF s.pc ((sealL s).take i)) ∧ sJ 24 = .int .i64 (i : Int) ∧ sJ 22 = s13 22 ∧ sJ 23 = s13 23 ∧ OldB [] w11 wJ ∧ i ≤ (sealL s).length) ⟨0, rfl, (by rw [sl3]; rfl), (by first | exact sl24 | (rw [sl24]; go_num) | (rw [sl24]; rfl)), rfl, rfl, OldB.refl _ _, Nat.zero_le _⟩ ?_; clear sl3 sl24; rintro kJ s14 w15 ⟨i, rfl, sl3, sl24, e22, e23, hb16, hil⟩; replace sl22 := e22.trans sl22; clear e22; replace sl23 := e23.trans sl23; clear e23; have hoJ := hb16; clear qb1 qb15 qb20 qb21; replace kb1 := kb1.oB hb16; replace kb15 := kb15.oB hb16; replace kb20 := kb20.oB hb16; replace kb21 := kb21.oB hb16; replace hr22 := Rd.oldB hr22 hb16 (by simp)
 replace HB := mO HB hb16; clear hb16; have qb1 := kb1.1; have qb15 := kb15.1; have qb20 := kb20.1; have qb21 := kb21.1; have HoJ := hid hoJ; clear hoJ; have HL17 := HoJ; clear HoJ
 repeat ((fail_if_success refine stp ?_); go_step)
 refine region_F ?_; refine pl ?_; refine lsa fun s18 z' => ?_; replace sl3 := slg z' sl3; replace sl22 := slg z' sl22; replace sl23 := slg z' sl23; replace sl24 := slg z' sl24; have sl25 := gu 25 z'; clear z'; refine lsn ?_
 repeat ((fail_if_success refine stp ?_); go_step)
 refine cond_E sl25 (by decide) ?_ ?_ <;> (clear sl25; intro h25 sl25)
 ·skip
  have hi : i < (sealL s).length := by simpa using h25
  have hii : (i : Int) < (sealL s).length := by omega
  obtain ⟨bx, ox, hax, hbx, cx⟩ := RdInts.ne hr22 hi; subst hax; obtain ⟨y, hy⟩ : ∃ y, (sealL s)[i] = y := ⟨_, rfl⟩; have hyb := sealL_in HO.out y (by rw [← hy]; exact List.getElem_mem hi); rw [hy] at cx; obtain ⟨m, hm⟩ : ∃ m, sealF s.pc ((sealL s).take i) = m := ⟨_, rfl⟩; have hmb := sealF_bd (n := s.pc) (by omega) ((sealL s).take i); have Hn := hid (show sealF s.pc ((sealL s).take (i + 1)) = (m * 1009 + y) % 16777259 by rw [List.take_succ_eq_append_getElem hi, sealF_snoc, hy, hm]); rw [hm] at hmb sl3; clear hm hy; have w1 : IntKind.i64.wrap (m * 1009) = m * 1009 := IntWalk.i64_in _ (by omega); have w2 : IntKind.i64.wrap (m * 1009 + y) = m * 1009 + y := IntWalk.i64_in _ (by omega); have e1 : (m * 1009 + y).tmod 16777259 = (m * 1009 + y) % 16777259 := Int.tmod_eq_emod_of_nonneg (by omega); have w3 : IntKind.i64.wrap ((m * 1009 + y) % 16777259) = (m * 1009 + y) % 16777259 := IntWalk.i64_in _ (by omega)
  repeat ((fail_if_success refine stp ?_); go_step)
  refine region_F ?_
  iterate 3 refine pl ?_
  refine lsa fun s19 z' => ?_; replace sl3 := slg z' sl3; have sl5 := gu 5 z'; replace sl22 := slg z' sl22; replace sl23 := slg z' sl23; replace sl24 := slg z' sl24; clear z' sl25; refine lsn ?_
  repeat ((fail_if_success refine stp ?_); go_step)
  refine region_F ?_
  iterate 6 refine pl ?_
  refine lsa fun s20 z' => ?_; replace sl3 := gu 3 z'; replace sl22 := slg z' sl22; replace sl23 := slg z' sl23; replace sl24 := slg z' sl24; clear z' sl5; refine lsn ?_
  repeat ((fail_if_success refine stp ?_); go_step)
  refine region_F ?_; refine pl ?_; refine pl ?_; refine lsa fun s21 z' => ?_; replace sl3 := slg z' sl3; replace sl22 := slg z' sl22; replace sl23 := slg z' sl23; replace sl24 := gu 24 z'; clear z'; refine lsn ?_
  repeat ((fail_if_success refine stp ?_); go_step)
  refine ⟨_, _, rfl, ?_, i + 1, rfl, (by rw [sl3, Hn.out]), (rL sl24), (sl22.trans hc0_22.out.symm), (sl23.trans hc0_23.out.symm), HL17.out, by omega⟩
  omega
 ·skip
  have hi : i = (sealL s).length := by have h := h25; simp at h; omega
  have Hf := hid (show sealF s.pc ((sealL s).take i) = sealI' s by rw [hi, List.take_length]; rfl); rw [Hf.out] at sl3
  repeat ((fail_if_success refine stp ?_); go_step)
  clear HL17; clear hc0_22 hc0_23; refine region_F ?_; refine pl ?_; refine pl ?_; refine lsa fun s22 z' => ?_; have sl2 := gu 2 z'; clear z' sl3 sl22 sl23 sl24 sl25; refine lsn ?_
  repeat ((fail_if_success refine stp ?_); go_step)
  refine ret_F _ (res_t Tryz.results76 ((getD_F (by decide)).trans sl2)) ?_; exact ⟨rfl, HB.out.toBelow⟩


/-- what Seal answers -/
def sealR (s : St4) : Int × Int := if (chk4 s).2.2 = 0 then (sealI' s, 0) else (0, (chk4 s).2.2)

set_option maxRecDepth 100000 in
set_option maxHeartbeats 1000000 in
theorem tSeal_any (s : St4) (A : SA) (w : World) (hR : RdSt w s A) (hL : LenI s) :
    Calls Tryz.prog 36 #[.agg #[.slice A.sa s.store.length A.sc, .slice A.ta s.tape.length A.tc, .int .i64 s.taken, .slice A.pa s.printed.length A.pc, .int .i64 s.time, .int .i64 s.pc, .int .i64 s.done, .int .i64 s.why]] w (fun e w' => e = .returned (.tuple #[.int .i64 (sealR s).1, .int .i64 (sealR s).2]) ∧ Below w.heap.size w w') := by
 have HR := hid hR; have HL := hid hL; clear hR hL; obtain ⟨⟨c1, c2, c3⟩, hC⟩ : ∃ z, chk4 s = z := ⟨_, rfl⟩; have HC := hid hC; clear hC
 refine enter_F Tryz.func36 rfl Tryz.ntmps36 (by simp) ?_
 intro s0 hs; have sl0 : s0 0 = .agg #[.slice A.sa s.store.length A.sc, .slice A.ta s.tape.length A.tc, .int .i64 s.taken, .slice A.pa s.printed.length A.pc, .int .i64 s.time, .int .i64 s.pc, .int .i64 s.done, .int .i64 s.why] := hs 0 (by simp); clear hs; have HB := hid (OldB.refl [] w)
 repeat ((fail_if_success refine stp ?_); go_step)
 refine region_F ?_; refine pa (fun w1 B1 hB kb1' hb2 => ?_); have gb1 := HB.out.gB hB; have eb1 := eB hB; clear hB; replace HB := bE HB hb2; clear hb2; have kb1 := kb1'; clear kb1'; have qb1 := kb1.1; refine pl ?_; refine pl ?_; refine lsa fun s3 z' => ?_; have sl1 := gu 1 z'; clear z' sl0; refine lsn ?_
 repeat ((fail_if_success refine stp ?_); go_step)
 refine region_F ?_; obtain ⟨cb1_0, cb1_1, cb1_2, cb1_3, cb1_4, cb1_5, cb1_6, cb1_7⟩ := cl8 kb1; refine pl ?_; refine cal (ocheck_v s A c1 c2 c3 _ HC.out (HR.out.old HB.out) HL.out) ?_; rintro e w4 ⟨rfl, hb5⟩; refine ⟨_, rfl, ?_⟩; clear cb1_0 cb1_1 cb1_2 cb1_3 cb1_4 cb1_5 cb1_6 cb1_7; clear qb1; replace kb1 := kb1.at hb5; replace HB := bE HB hb5; clear hb5; have qb1 := kb1.1
 iterate 7 refine pl ?_
 refine lsa fun s6 z' => ?_; replace sl1 := slg z' sl1; have sl6 := gu 6 z'; clear z'; refine lsn ?_
 repeat ((fail_if_success refine stp ?_); go_step)
 refine region_F ?_; refine pl ?_; refine pl ?_; refine lsa fun s7 z' => ?_; replace sl1 := slg z' sl1; replace sl6 := slg z' sl6; have sl14 := gu 14 z'; clear z'; refine lsn ?_
 repeat ((fail_if_success refine stp ?_); go_step)
 refine cond_E sl14 (by decide) ?_ ?_ <;> (clear sl14; intro h14 sl14)
 ·skip
  have Hr := hid (show sealR s = (0, c3) by unfold sealR; rw [HC.out, if_neg (by simpa using h14)])
  repeat ((fail_if_success refine stp ?_); go_step)
  refine region_F ?_
  iterate 3 refine pl ?_
  refine lsa fun s8 z' => ?_; have sl2 := gu 2 z'; have sl3 := gu 3 z'; clear z' sl1 sl6 sl14; refine lsn ?_
  repeat ((fail_if_success refine stp ?_); go_step)
  refine ret_F _ (res_tt Tryz.results36 ((getD_F (by decide)).trans sl2) ((getD_F (by decide)).trans sl3)) ?_; exact ⟨by rw [Hr.out], HB.out.toBelow⟩
 ·skip
  have h9 : c3 = 0 := by simpa using h14
  have Hok := hid (show OkI s from ok_iff.1 (by rw [HC.out]; exact h9)); have Hr := hid (show sealR s = (sealI' s, 0) by unfold sealR; rw [HC.out, if_pos h9])
  repeat ((fail_if_success refine stp ?_); go_step)
  refine region_F ?_; obtain ⟨cb1_0, cb1_1, cb1_2, cb1_3, cb1_4, cb1_5, cb1_6, cb1_7⟩ := cl8 kb1; refine pl ?_; refine cal (seal_any s A _ (HR.out.old HB.out) Hok.out) ?_; rintro e w9 ⟨rfl, hb10⟩; refine ⟨_, rfl, ?_⟩; clear cb1_0 cb1_1 cb1_2 cb1_3 cb1_4 cb1_5 cb1_6 cb1_7; clear qb1; replace kb1 := kb1.at hb10; replace HB := bE HB hb10; clear hb10; have qb1 := kb1.1; refine pl ?_; refine pl ?_; refine lsa fun s11 z' => ?_; have sl2 := gu 2 z'; have sl3 := gu 3 z'; clear z' sl1 sl6 sl14; refine lsn ?_
  repeat ((fail_if_success refine stp ?_); go_step)
  refine ret_F _ (res_tt Tryz.results36 ((getD_F (by decide)).trans sl2) ((getD_F (by decide)).trans sl3)) ?_; exact ⟨by rw [Hr.out], HB.out.toBelow⟩

end Go.Proofs.YtleknidlgmmgbaaGreat
