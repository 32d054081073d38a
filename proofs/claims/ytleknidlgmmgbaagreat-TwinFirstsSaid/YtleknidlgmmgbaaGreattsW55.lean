/- The reference's Decode, First. -/
import Derived.Test.YtleknidlgmmgbaaGreattsW54
import Derived.Test.YtleknidlgmmgbaaGreattsW33
import Derived.Test.YtleknidlgmmgbaaGreattsCZ
set_option linter.all false
set_option maxRecDepth 100000
set_option maxHeartbeats 32000000
namespace Go.Proofs.YtleknidlgmmgbaaGreat

open Go.RowKit


theorem rafter_1 (fs : List Flt) (i : Nat) (s1 t1 : St4) (A : SA) (af : Option Addr) (cf : Nat) (w : World) (h1 : do12 fs i s1 = t1) (hR : RdSt w s1 A) (hO : OkI s1) (hfo : FOk fs) (hlf : fs.length ≤ 10) (hF : RdFl w af fs) (hm : i + 1 ≤ 1000) :
    Calls Tryz.prog 50 #[.agg #[.slice A.sa s1.store.length A.sc, .slice A.ta s1.tape.length A.tc, .int .i64 s1.taken, .slice A.pa s1.printed.length A.pc, .int .i64 s1.time, .int .i64 s1.pc, .int .i64 s1.done, .int .i64 s1.why], .slice af fs.length cf, .int .i64 (i : Int), .int .i64 ((i : Int) + 1)] w (fun e w' => ∃ A' : SA, e = .returned (.agg #[.slice A'.sa t1.store.length A'.sc, .slice A'.ta t1.tape.length A'.tc, .int .i64 t1.taken, .slice A'.pa t1.printed.length A'.pc, .int .i64 t1.time, .int .i64 t1.pc, .int .i64 t1.done, .int .i64 t1.why]) ∧ RdSt w' t1 A' ∧ Kept w.heap.size s1 A t1 A' ∧ Below w.heap.size w w') := by
  have h := rafter12_any s1 A af cf fs i (i + 1) w hR hO hfo hlf hF ⟨by omega, hm⟩
  have e : after12 fs i (i + 1 - i) s1 = t1 := by rw [show i + 1 - i = 1 by omega]; exact h1
  rw [e] at h; exact h
theorem run12_succ (s : St4) (fs : List Flt) (i : Nat) : do12 fs i (run12 s fs i) = run12 s fs (i + 1) := by unfold run12; rw [after_snoc, Nat.zero_add]
theorem run4_succ (s : St4) (i : Nat) : do12 [] i (run4 i s) = run4 (i + 1) s := by rw [run4_add]; rfl
theorem firstU_in {s : St4} {fs : List Flt} {i : Nat} {t1 t2 : St4} (h1 : run12 s fs (i + 1) = t1) (h2 : run4 (i + 1) s = t2) : firstU s fs i = decide (t1 ≠ t2) := by unfold firstU; rw [h1, h2]

theorem rDecode_ok (x : Int) (w : World) (hx : 0 ≤ x ∧ x ≤ 16777215) :
    Calls Tryz.prog 51 #[.int .i64 x] w (fun e w' => e = .returned (.tuple #[.agg #[.int .i64 (decodeO x).op, .int .i64 (decodeO x).fr, .int .i64 (decodeO x).tt, .int .i64 (decodeO x).nx], .int .i64 0]) ∧ Below w.heap.size w w') := by
 have hw : wordB x = true := (inI_iff _ _ _).2 hx
 refine enter_F Tryz.func51 rfl Tryz.ntmps51 (by simp) ?_
 intro s0 hs; have sl0 : s0 0 = .int .i64 x := hs 0 (by simp); clear hs; have HB := hid (OldB.refl [] w)
 refine nr ?_; intros; refine pa (fun _ B2 hB kb2 hb => ?_); have gb2 := HB.out.gB hB; have eb2 := eB hB; clear hB; replace HB := bE HB hb; clear hb; have qb2 := kb2.1; refine pl ?_; refine lx [2] ?_; clear sl0; intro _ sl0 sl2; refine lr ?_; intros; refine pl ?_; refine cal (rword_any x _) ?_; rintro e w' ⟨rfl, rfl⟩; refine ⟨_, rfl, ?_⟩; refine pl ?_; refine lx [6] ?_; clear sl0 sl2; intro _ sl0 sl2 sl6; refine ln ?_; intros
 refine cond_f ?_
 refine nr ?_; intros; refine pl ?_; refine cal (rdecode_any x _ hx) ?_; rintro e _ ⟨rfl, hb⟩; refine ⟨_, rfl, ?_⟩; clear qb2; revert HB; revert kb2; refine uA hb ?_; clear hb; intro kb2 qb2 HB; obtain ⟨cb2_0, cb2_1, cb2_2, cb2_3⟩ := cl4 kb2; have zb2 := kb2.2.2; refine pl ?_; refine sto kb2 ?_; clear kb2 cb2_0 cb2_1 cb2_2 cb2_3 zb2; intro _ kb2 hb; clear qb2; replace HB := mO HB hb; clear hb; have qb2 := kb2.1; refine pl ?_; clear sl0 sl6; refine lx [3] ?_; clear sl2; intro _ sl2 sl3; refine ln ?_; intros
 obtain ⟨cb2_0, cb2_1, cb2_2, cb2_3⟩ := cl4 kb2; refine ret_F _ (res_ct Tryz.results51 ((getD_F (by decide)).trans sl2) (load_t27 cb2_0 cb2_1 cb2_2 cb2_3) ((getD_F (by decide)).trans sl3)) ?_; exact ⟨rfl, HB.out.toBelow⟩

theorem XW55b {A : Prop} (e : A := by
 simp only [updC_some, updC_none, Nat.reduceEqDiff, ↓reduceIte] at hkq
 have hks := hkq.1; have hkz := hkq.2.2
 (try have hk0 := hkq.cell 0 rfl)
 (try have hk1 := hkq.cell 1 rfl)
 (try have hk2 := hkq.cell 2 rfl)
 (try have hk3 := hkq.cell 3 rfl)
 (try have hk4 := hkq.cell 4 rfl)
 (try have hk5 := hkq.cell 5 rfl)
 (try have hk6 := hkq.cell 6 rfl)
 (try have hk7 := hkq.cell 7 rfl)
 go_simp
 (first | ((with_reducible refine writeB_mk (Cells.set (Cells.set (Cells.set (Cells.set (Cells.set (Cells.set (Cells.set (Cells.set hkq)))))))) ?_ ?_); (focus (repeat (first | (with_reducible exact Only.refl _ _) | (with_reducible refine Only.set ?_)))); rfl))) : A := e
theorem XW55c {A : Prop} (e : A := by
 rintro sJ wJ hbJ hunJ hdJ
 have sv12 := (hunJ 12 (by decide) (un_of (by kernel_rfl))).trans sl12; rw [if_pos (by rfl)]; exact oV) : A := e
theorem XW55d {A : Prop} (e : A := by
 (first | exact ⟨rfl, rfl⟩ | (have e2 := h 2 (by decide +kernel); have e3 := h 3 (by decide +kernel); constructor <;> (first | rfl | (simp only [e2, e3]))))) : A := e
theorem XW55e {A B1 : Prop} (hX1 : B1) (e : B1 → A := by exact ret_F _ (res_tct Tryz.results17 ((getD_F (by decide)).trans sl6) ((getD_F (by decide)).trans sl7) (load_t29 cb7_0 cb7_1 cb7_2 cb7_3 cb7_4 cb7_5 cb7_6) ((getD_F (by decide)).trans sl8))) : A := e hX1
theorem rFirst_v (s : St4) (A : SA) (af : Option Addr) (cf : Nat) (fs : List Flt) (most n er : Int) (st : Stp4) (w : World) (hR : RdSt w s A) (hL : LenI s) (hlf : fs.length ≤ 9223372036854775807) (hF : RdFl w af fs) (hfr : firstR s fs most = (n, st, er)) :
    Calls Tryz.prog 17 #[.agg #[.slice A.sa s.store.length A.sc, .slice A.ta s.tape.length A.tc, .int .i64 s.taken, .slice A.pa s.printed.length A.pc, .int .i64 s.time, .int .i64 s.pc, .int .i64 s.done, .int .i64 s.why], .slice af fs.length cf, .int .i64 most] w (fun e w' => e = .returned (.tuple #[.int .i64 n, .agg #[.int .i64 st.pc, .int .i64 st.ord.op, .int .i64 st.ord.fr, .int .i64 st.ord.tt, .int .i64 st.ord.nx, .int .i64 st.time, .int .i64 st.til], .int .i64 er]) ∧ Below w.heap.size w w') := by
 have HR := hid hR; have HL := hid hL; have HF := hid hF; clear hR hL hF; have Hfr := hid hfr; clear hfr; obtain ⟨ea, hA⟩ : ∃ x, askErr12 s fs most = x := ⟨_, rfl⟩; have HA := hid hA; clear hA
 refine enter_F Tryz.func17 rfl Tryz.ntmps17 (by simp) ?_
 intro s0 hs; have sl0 : s0 0 = .agg #[.slice A.sa s.store.length A.sc, .slice A.ta s.tape.length A.tc, .int .i64 s.taken, .slice A.pa s.printed.length A.pc, .int .i64 s.time, .int .i64 s.pc, .int .i64 s.done, .int .i64 s.why] := hs 0 (by simp); have sl1 : s0 1 = .slice af fs.length cf := hs 1 (by simp); have sl2 : s0 2 = .int .i64 most := hs 2 (by simp); clear hs; have HB := hid (OldB.refl [] w)
 refine nr ?_; intros; refine pa (fun w1 B3 hB kb3 hb2 => ?_); have gb3 := HB.out.gB hB; have eb3 := eB hB; clear hB; replace HB := bE HB hb2; clear hb2; have qb3 := kb3.1; refine pl ?_; refine pa (fun w3 B7 hB kb7 hb4 => ?_); have gb7 := HB.out.gB hB; have ob3_b7 := oB qb3 hB; have eb7 := eB hB; clear hB; clear qb3; revert HB; revert kb3; refine uA hb4 ?_; clear hb4; intro kb3 qb3 HB; have qb7 := kb7.1; refine pl ?_; clear sl0; refine lx [3,7] ?_; clear sl1 sl2; intro s5 sl1 sl2 sl3 sl7; refine lr ?_; intros; have cb3 := clx kb3
 refine P3 ?_
 refine cal (rasked_v s A af cf fs most ea _ (HR.out.old HB.out) HL.out (Rd.oldB HF.out HB.out (by simp)) hlf HA.out) ?_; rintro e w6 ⟨rfl, hb7⟩; refine ⟨_, rfl, ?_⟩; clear cb3; clear qb3 qb7; revert HB; revert kb7; revert kb3; refine uA hb7 ?_; clear hb7; intro kb3 qb3 kb7 qb7 HB; refine pl ?_; refine lx [9] ?_; clear sl1 sl2 sl3 sl7; intro s8 sl1 sl2 sl3 sl7 sl9; refine lr ?_; intros; refine P2 ?_; refine lx [20] ?_; clear sl1 sl2 sl3 sl7 sl9; intro s9 sl1 sl2 sl3 sl7 sl9 sl20; refine ln ?_; intros
 refine cond_E sl20 (by decide) ?_ ?_ <;> (clear sl20; intro h20 sl20)
 ·skip
  have he : ea ≠ 0 := by simpa using h20
  have e9 := Hfr.out.symm.trans (firstR_bad HA.out he)
  obtain ⟨rfl, rfl, rfl⟩ : n = 0 ∧ st = Stp4.zero ∧ er = ea := by simpa using e9
  refine nr ?_; intros
  refine P3 ?_
  obtain ⟨cb7_0, cb7_1, cb7_2, cb7_3, cb7_4, cb7_5, cb7_6⟩ := cl7 kb7; have zb7 := kb7.2.2; refine pl ?_; refine sto kb7 ?_; clear kb7 cb7_0 cb7_1 cb7_2 cb7_3 cb7_4 cb7_5 cb7_6 zb7; intro w10 kb7 hb11; clear qb3 qb7; revert HB; revert kb3; refine uO hb11 ?_; clear hb11; intro kb3 qb3 HB; have qb7 := kb7.1; refine pl ?_; clear sl1 sl2 sl3 sl9 sl20; refine lx [6,8] ?_; clear sl7; intro s12 sl7 sl6 sl8; refine ln ?_; intros
  obtain ⟨cb7_0, cb7_1, cb7_2, cb7_3, cb7_4, cb7_5, cb7_6⟩ := cl7 kb7; refine XW55e ?_; exact ⟨rfl, HB.out.toBelow⟩
 ·skip
  have he : ea = 0 := by simpa using h20
  obtain ⟨hOk, hl10, hfo, hm0, hm1⟩ := ask12_zero.1 (HA.out.trans he); have HOk := hid hOk; have Hfo := hid hfo; obtain ⟨mn, rfl⟩ : ∃ n : Nat, most = n := ⟨most.toNat, by omega⟩; clear hOk hfo
  refine zx ?_; intros
  have cb3 := clx kb3; obtain ⟨cb7_0, cb7_1, cb7_2, cb7_3, cb7_4, cb7_5, cb7_6⟩ := cl7 kb7; refine regionR_F [] [] [2, 3] [.q [], .q [], .a, .a, .st 2, .st 3] [?v37_0, ?v37_1, ?v37_2, ?v37_3, fun _ => undef, fun _ => undef] [fun _ => [], fun _ => [], ?c37_2, ?c37_3, ?c37_4, ?c37_5] (by kernel_rfl) (by kernel_rfl) (by kernel_rfl) (by kernel_rfl) (by kernel_rfl) (by first | exact List.nodup_nil | exact List.nodup_singleton _ | (simp; done) | (simp; omega)) bc_nil ?walk37 ?dep37
  case walk37 =>
   refine rq ?_; refine rq ?_; refine walkR_a (by rfl) (fun X hX wq hwq hsq => ?_) ?_
   · go_simp
     refine newB_mk ?_ ?_
     · rfl
     · rfl
   refine walkR_a (by rfl) (fun X hX wq hwq hsq => ?_) ?_
   · go_simp
     refine newB_mk ?_ ?_
     · rfl
     · rfl
   refine walkR_st (by rfl) (fun X hX wq hwq hkq => ?_) ?_
   · exact XW55b
   refine walkR_st (by rfl) (fun X hX wq hwq hkq => ?_) ?_
   · exact XW55b
   refine walkR_nil (fun X hX w13 hwz hcz => ?_); have ka2 := hcz 2 (by simp)
   simp only [updC_some, updC_none, Nat.reduceEqDiff, ↓reduceIte] at ka2
   have la2 := hX.lo 2 rfl; have ln2_3 := hX.ne 2 3 rfl rfl (by decide); have ka3 := hcz 3 (by simp)
   simp only [updC_some, updC_none, Nat.reduceEqDiff, ↓reduceIte] at ka3
   have la3 := hX.lo 3 rfl; clear hX hcz
   generalize X 2 = J2 at *
   generalize X 3 = J3 at *
   (try clear X)
   skip; have hb14 := hwz.unDrew; clear hwz; have gJ := HB.out.size; replace la2 : w6.heap.size ≤ J2 := la2; replace la3 : w6.heap.size ≤ J3 := la3
   have ob3_J2 : B3 < J2 := by have := qb3; omega
   have ob7_J2 : B7 < J2 := by have := qb7; omega
   have ob3_J3 : B3 < J3 := by have := qb3; omega
   have ob7_J3 : B7 < J3 := by have := qb7; omega
   clear cb3 cb7_0 cb7_1 cb7_2 cb7_3 cb7_4 cb7_5 cb7_6; clear qb3 qb7; revert HB; revert kb7; revert kb3; refine uO hb14 ?_; clear hb14; intro kb3 qb3 kb7 qb7 HB
   have gb10 : w.heap.size ≤ J2 := by omega
   have kb10 := ka2; clear ka2; have qb10 := kb10.1
   have gb11 : w.heap.size ≤ J3 := by omega
   have kb11 := ka3; clear ka3; have qb11 := kb11.1; clear sl3 sl9 sl20; refine lx [10,11] ?_; clear sl1 sl2 sl7; intro s15 sl1 sl2 sl7 sl10 sl11; refine lr ?_; intros; refine pl ?_; refine lx [12] ?_; clear sl1 sl2 sl7 sl10 sl11; intro s16 sl1 sl2 sl7 sl10 sl11 sl12; refine ln ?_; intros
   have hc0_1 := hid sl1; have hc0_2 := hid sl2; have hc0_7 := hid sl7; have hc0_10 := hid sl10; have hc0_11 := hid sl11; refine loop_F (n := 73) (fun kJ sJ wJ => ∃ (i : Nat) (A1 A2 : SA), kJ = mn - i ∧ sJ 12 = .int .i64 (i : Int) ∧ sJ 1 = s16 1 ∧ sJ 2 = s16 2 ∧ sJ 7 = s16 7 ∧ sJ 10 = s16 10 ∧ sJ 11 = s16 11 ∧ OldB [J2, J3] w13 wJ ∧ Cells wJ J2 (stC (run12 s fs i) A1) ∧ Cells wJ J3 (stC (run4 i s) A2) ∧ i ≤ mn ∧ RdSt wJ (run12 s fs i) A1 ∧ RdSt wJ (run4 i s) A2 ∧ Hid (A1.free (run12 s fs i) J2 ∧ A1.free (run12 s fs i) J3 ∧ A2.free (run4 i s) J2 ∧ A2.free (run4 i s) J3) ∧ (Hid (∀ j, j < i → firstU s fs j = false))) ⟨0, A, A, rfl, (by first | exact sl12 | (rw [sl12]; go_num) | (rw [sl12]; rfl)), rfl, rfl, rfl, rfl, rfl, OldB.refl _ _, (by first | (with_reducible exact kb10) | (apply Cells.conv; (focus (exact kb10)); (first | rfl | (simp; done)))), (by first | (with_reducible exact kb11) | (apply Cells.conv; (focus (exact kb11)); (first | rfl | (simp; done)))), Nat.zero_le _, (HR.out.old HB.out), (HR.out.old HB.out), hid ⟨HR.out.freeB (by omega), HR.out.freeB (by omega), HR.out.freeB (by omega), HR.out.freeB (by omega)⟩, hid (fun j hj => by omega)⟩ ?_
   clear sl12; rintro kJ s17 w18 ⟨i, A1, A2, rfl, sl12, e1, e2, e7, e10, e11, hb19, mb10', mb11', hil, hR1, hR2, Hff, Hu⟩; replace sl1 := e1.trans sl1; clear e1; replace sl2 := e2.trans sl2; clear e2; replace sl7 := e7.trans sl7; clear e7; replace sl10 := e10.trans sl10; clear e10; replace sl11 := e11.trans sl11; clear e11; have hoJ := hb19; clear qb3 qb7 qb10 qb11; replace kb10 := mb10'; replace kb11 := mb11'; revert HB; revert kb7; revert kb3; refine uO hb19 ?_; clear hb19; intro kb3 qb3 kb7 qb7 HB; have qb10 := kb10.1; have qb11 := kb11.1; clear mb10' mb11'; have HoJ := hid hoJ; clear hoJ; have HL20 := HoJ; clear HoJ
   refine nr ?_; intros
   refine P3 ?_
   refine lx [27] ?_; clear sl1 sl2 sl7 sl10 sl11 sl12; intro s21 sl1 sl2 sl7 sl10 sl11 sl12 sl27; refine ln ?_; intros
   refine cond_E sl27 (by decide) ?_ ?_ <;> (clear sl27; intro h27 sl27)
   ·skip
    have hi : i < mn := by simpa using h27
    have wi : IntKind.i64.wrap ((i : Int) + 1) = (i : Int) + 1 := IntWalk.i64_in _ (by omega); obtain ⟨s1, hs1⟩ : ∃ z, run12 s fs i = z := ⟨_, rfl⟩; obtain ⟨s2, hs2⟩ : ∃ z, run4 i s = z := ⟨_, rfl⟩; obtain ⟨t1, ht1⟩ : ∃ z, run12 s fs (i + 1) = z := ⟨_, rfl⟩; obtain ⟨t2, ht2⟩ : ∃ z, run4 (i + 1) s = z := ⟨_, rfl⟩; rw [hs1] at hR1 kb10; rw [hs2] at hR2 kb11; have Hs1 := hid hs1; have Hs2 := hid hs2; have Ht1 := hid ht1; have Ht2 := hid ht2; have HO1 := hid (show OkI s1 by rw [← hs1]; exact after_ok Hfo.out HOk.out); have HO2 := hid (show OkI s2 by rw [← hs2]; exact run_ok4 HOk.out); have HT1 := hid (show OkI t1 by rw [← ht1]; exact after_ok Hfo.out HOk.out); have HT2 := hid (show OkI t2 by rw [← ht2]; exact run_ok4 HOk.out); have Hd1 := hid (show do12 fs i s1 = t1 by rw [← hs1, run12_succ, ht1]); have Hd2 := hid (show do12 [] i s2 = t2 by rw [← hs2, run4_succ, ht2]); obtain ⟨ZH, hZH⟩ : ∃ n, n = w18.heap.size := ⟨_, rfl⟩
    have hZ1 : ZH ≤ w18.heap.size := by omega
    have hZ2 : w18.heap.size ≤ ZH := by omega
    have HFa := hid (show ∀ k, k = J2 ∨ k = J3 ∨ ZH ≤ k → A1.free s1 k ∧ A2.free s2 k from fun k hk => by have hf := Hff.out; rw [hs1, hs2] at hf; rcases hk with rfl | rfl | hk; exact ⟨hf.1, hf.2.2.1⟩; exact ⟨hf.2.1, hf.2.2.2⟩; exact ⟨hR1.freeB (by omega), hR2.freeB (by omega)⟩); clear hZH hs1 hs2 ht1 ht2
    refine nr ?_; intros; refine pl ?_; have cb11 := clx kb11
    refine P4 ?_
    refine pa (fun w22 B13 hB kb13 hb23 => ?_); have gb13 := HB.out.gB hB; have lHL20_b13 := HL20.out.gB hB; have ob3_b13 := oB qb3 hB; have ob7_b13 := oB qb7 hB; have ob10_b13 := oB qb10 hB; have ob11_b13 := oB qb11 hB; have eb13 := eB hB; clear hB; clear cb11; clear qb3 qb7 qb10 qb11; replace hR1 := RdSt.at hR1 hb23; replace hR2 := RdSt.at hR2 hb23; revert HB; revert HL20; revert kb11; revert kb10; revert kb7; revert kb3; refine uA hb23 ?_; clear hb23; intro kb3 qb3 kb7 qb7 kb10 qb10 kb11 qb11 HL20 HB; have qb13 := kb13.1; have cb13 := clx kb13
    have zb13 := kb13.2.2; refine pl ?_; refine sto kb13 ?_; clear kb13 cb13 zb13; intro w24 kb13 hb25; clear qb3 qb7 qb10 qb11 qb13; replace hR1 := RdSt.oldK hR1 (HFa.out _ (by omega)).1 hb25; replace hR2 := (by first | exact RdSt.old hR2 hb25 | exact RdSt.oldK hR2 (HFa.out _ (by omega)).2 hb25); revert HB; revert HL20; revert kb11; revert kb10; revert kb7; revert kb3; refine uO hb25 ?_; clear hb25; intro kb3 qb3 kb7 qb7 kb10 qb10 kb11 qb11 HL20 HB; have qb13 := kb13.1; clear sl27; refine lx [13] ?_; clear sl1 sl2 sl7 sl10 sl11 sl12; intro s26 sl1 sl2 sl7 sl10 sl11 sl12 sl13; refine lr ?_; intros; have cb11 := clx kb11; refine pl ?_; refine pa (fun w27 B14 hB kb14 hb28 => ?_); have gb14 := HB.out.gB hB; have lHL20_b14 := HL20.out.gB hB; have ob3_b14 := oB qb3 hB; have ob7_b14 := oB qb7 hB; have ob10_b14 := oB qb10 hB; have ob11_b14 := oB qb11 hB; have ob13_b14 := oB qb13 hB; have eb14 := eB hB; clear hB; clear cb11; clear qb3 qb7 qb10 qb11 qb13; replace hR1 := RdSt.at hR1 hb28; replace hR2 := RdSt.at hR2 hb28; revert HB; revert HL20; revert kb13; revert kb11; revert kb10; revert kb7; revert kb3; refine uA hb28 ?_; clear hb28; intro kb3 qb3 kb7 qb7 kb10 qb10 kb11 qb11 kb13 qb13 HL20 HB; have qb14 := kb14.1; obtain ⟨cb14_0, cb14_1, cb14_2, cb14_3, cb14_4, cb14_5, cb14_6, cb14_7⟩ := cl8 kb14; have zb14 := kb14.2.2; refine pl ?_; refine sto kb14 ?_; clear kb14 cb14_0 cb14_1 cb14_2 cb14_3 cb14_4 cb14_5 cb14_6 cb14_7 zb14; intro w29 kb14 hb30; clear qb3 qb7 qb10 qb11 qb13 qb14; replace hR1 := RdSt.oldK hR1 (HFa.out _ (by omega)).1 hb30; replace hR2 := (by first | exact RdSt.old hR2 hb30 | exact RdSt.oldK hR2 (HFa.out _ (by omega)).2 hb30); revert HB; revert HL20; revert kb13; revert kb11; revert kb10; revert kb7; revert kb3; refine uO hb30 ?_; clear hb30; intro kb3 qb3 kb7 qb7 kb10 qb10 kb11 qb11 kb13 qb13 HL20 HB; have qb14 := kb14.1; refine lx [14] ?_; clear sl1 sl2 sl7 sl10 sl11 sl12 sl13; intro s31 sl1 sl2 sl7 sl10 sl11 sl12 sl13 sl14; refine ln ?_; intros
    refine regV 10 [fun v _ _ _ => v = .agg #[Value.slice A1.sa s1.store.length A1.sc, Value.slice A1.ta s1.tape.length A1.tc, .int .i64 s1.taken, Value.slice A1.pa s1.printed.length A1.pc, .int .i64 s1.time, .int .i64 s1.pc, .int .i64 s1.done, .int .i64 s1.why], fun v _ _ _ => v = .slice af fs.length cf, fun v _ _ _ => v = .int .i64 (i : Int), fun v _ _ _ => v = .int .i64 (i : Int), fun v _ _ _ => v = .int .i64 ((i : Int) + 1), fun v a b W => ∃ A1n : SA, v = .agg #[.slice A1n.sa t1.store.length A1n.sc, .slice A1n.ta t1.tape.length A1n.tc, .int .i64 t1.taken, .slice A1n.pa t1.printed.length A1n.pc, .int .i64 t1.time, .int .i64 t1.pc, .int .i64 t1.done, .int .i64 t1.why] ∧ RdSt W t1 A1n ∧ ∀ k, k < a → A1.free s1 k → A1n.free t1 k, fun v _ _ _ => v = .agg #[Value.slice A2.sa s2.store.length A2.sc, Value.slice A2.ta s2.tape.length A2.tc, .int .i64 s2.taken, Value.slice A2.pa s2.printed.length A2.pc, .int .i64 s2.time, .int .i64 s2.pc, .int .i64 s2.done, .int .i64 s2.why], fun v _ _ _ => v = .int .i64 (i : Int), fun v _ _ _ => v = .int .i64 (i : Int), fun v _ _ _ => v = .int .i64 ((i : Int) + 1)] (by kernel_rfl) (by kernel_rfl) (by kernel_rfl) (by kernel_rfl) ⟨fun _ _ _ _ _ h _ => h, fun _ _ _ _ _ h _ => h, fun _ _ _ _ _ h _ => h, fun _ _ _ _ _ h _ => h, fun _ _ _ _ _ h _ => h, fun _ _ _ _ _ ⟨A2, h1, h2, h3⟩ hb => ⟨A2, h1, h2.at hb, h3⟩, fun _ _ _ _ _ h _ => h, fun _ _ _ _ _ h _ => h, fun _ _ _ _ _ h _ => h, fun _ _ _ _ _ h _ => h, trivial⟩ ⟨?_, ?_, ?_, ?_, ?_, ?_, ?_, ?_, ?_, ?_, trivial⟩ ?_
    · rintro sJ wJ hbJ hunJ hdJ
      have sv10 := (hunJ 10 (by decide) (un_of (by kernel_rfl))).trans sl10; have kJ := kb10.at hbJ; have qJ := kJ.1; have cJ := clx kJ; rw [if_pos (by rfl)]; exact oV
    · rintro sJ wJ hbJ hunJ hdJ
      have sv1 := (hunJ 1 (by decide) (un_of (by kernel_rfl))).trans sl1; rw [if_pos (by rfl)]; exact oV
    · exact XW55c
    · exact XW55c
    · rintro sJ wJ hbJ hunJ hdJ
      have sv39 : sJ 39 = .int .i64 (i : Int) := (hdJ 3 (by kernel_rfl) 39 rfl).elim fun _ h => h.elim fun _ h => h.2.2
      rw [if_pos (by rfl)]; exact oV
    · rintro sJ wJ hbJ hunJ hdJ
      have sv36 : sJ 36 = .agg #[Value.slice A1.sa s1.store.length A1.sc, Value.slice A1.ta s1.tape.length A1.tc, .int .i64 s1.taken, Value.slice A1.pa s1.printed.length A1.pc, .int .i64 s1.time, .int .i64 s1.pc, .int .i64 s1.done, .int .i64 s1.why] := (hdJ 0 (by kernel_rfl) 36 rfl).elim fun _ h => h.elim fun _ h => h.2.2
      have sv37 : sJ 37 = .slice af fs.length cf := (hdJ 1 (by kernel_rfl) 37 rfl).elim fun _ h => h.elim fun _ h => h.2.2
      have sv38 : sJ 38 = .int .i64 (i : Int) := (hdJ 2 (by kernel_rfl) 38 rfl).elim fun _ h => h.elim fun _ h => h.2.2
      have sv40 : sJ 40 = .int .i64 ((i : Int) + 1) := (hdJ 4 (by kernel_rfl) 40 rfl).elim fun _ h => h.elim fun _ h => h.2.2
      rw [if_pos (by rfl)]; unfold opF; go_simp; refine (rafter_1 fs i s1 t1 A1 af cf _ Hd1.out (hR1.at hbJ) HO1.out Hfo.out hl10 (Rd.oldB HF.out (HB.out.below hbJ) (by simp)) (by omega)).mono ?_; rintro e wN ⟨A1n, rfl, hR1n, hk1n, hbN⟩; exact ⟨_, rfl, ⟨A1n, rfl, hR1n, hk1n⟩, hbN⟩
    · rintro sJ wJ hbJ hunJ hdJ
      have sv11 := (hunJ 11 (by decide) (un_of (by kernel_rfl))).trans sl11; have kJ := kb11.at hbJ; have qJ := kJ.1; have cJ := clx kJ; rw [if_pos (by rfl)]; exact oV
    · exact XW55c
    · exact XW55c
    · rintro sJ wJ hbJ hunJ hdJ
      have sv44 : sJ 44 = .int .i64 (i : Int) := (hdJ 8 (by kernel_rfl) 44 rfl).elim fun _ h => h.elim fun _ h => h.2.2
      rw [if_pos (by rfl)]; exact oV
    intro s34 w32 aJ bJ hb33 hunJ hvJ hapJ; replace sl1 := (hunJ 1 (by decide) (un_of (by kernel_rfl))).trans sl1; replace sl2 := (hunJ 2 (by decide) (un_of (by kernel_rfl))).trans sl2; replace sl7 := (hunJ 7 (by decide) (un_of (by kernel_rfl))).trans sl7; replace sl10 := (hunJ 10 (by decide) (un_of (by kernel_rfl))).trans sl10; replace sl11 := (hunJ 11 (by decide) (un_of (by kernel_rfl))).trans sl11; replace sl12 := (hunJ 12 (by decide) (un_of (by kernel_rfl))).trans sl12; replace sl13 := (hunJ 13 (by decide) (un_of (by kernel_rfl))).trans sl13; replace sl14 := (hunJ 14 (by decide) (un_of (by kernel_rfl))).trans sl14; obtain ⟨gw41, gm41, gh41, hq41⟩ := hvJ 5 (by decide); obtain ⟨A1n, sl41, hR1n, hz1n⟩ := hq41 41 rfl; clear hq41; have sl42 : s34 42 = .agg #[Value.slice A2.sa s2.store.length A2.sc, Value.slice A2.ta s2.tape.length A2.tc, .int .i64 s2.taken, Value.slice A2.pa s2.printed.length A2.pc, .int .i64 s2.time, .int .i64 s2.pc, .int .i64 s2.done, .int .i64 s2.why] := (hvJ 6 (by decide)).2.2.2 42 rfl
    have sl43 : s34 43 = .int .i64 (i : Int) := (hvJ 7 (by decide)).2.2.2 43 rfl; have sl45 : s34 45 = .int .i64 ((i : Int) + 1) := (hvJ 9 (by decide)).2.2.2 45 rfl; clear hunJ hvJ hapJ; have gS := HB.out.size; have HF1n := hid (show ∀ k, k = J2 ∨ k = J3 ∨ k = B13 ∨ k = B14 → A1n.free t1 k from fun k hk => hz1n k (by rcases hk with h | h | h | h <;> subst h <;> omega) (HFa.out k (by omega)).1); clear hz1n; clear qb3 qb7 qb10 qb11 qb13 qb14; replace hR1 := RdSt.at hR1 hb33; replace hR2 := RdSt.at hR2 hb33; revert HB; revert HL20; revert kb14; revert kb13; revert kb11; revert kb10; revert kb7; revert kb3; refine uA hb33 ?_; clear hb33; intro kb3 qb3 kb7 qb7 kb10 qb10 kb11 qb11 kb13 qb13 kb14 qb14 HL20 HB; clear hR1; refine listF_step rfl (fun K' hK => ?_); unfold opF; go_simp
    refine (rafter_1 [] i s2 t2 A2 none 0 _ Hd2.out hR2 HO2.out (fun _ h => by cases h) (by simp) (.inl rfl) (by omega)).mono ?_; rintro e w35 ⟨A2n, rfl, hR2n, hk2n, hb36⟩; have HF2n := hid (fun k (hk : k = J2 ∨ k = J3 ∨ k = B13 ∨ k = B14) => hk2n k (by have := HB.out.size; rcases hk with h | h | h | h <;> subst h <;> omega) (HFa.out k (by omega)).2); clear hk2n; refine ⟨_, rfl, hK _ _ ?_⟩; clear hK K'; clear qb3 qb7 qb10 qb11 qb13 qb14; replace hR2 := RdSt.at hR2 hb36; replace hR1n := RdSt.at hR1n hb36; revert HB; revert HL20; revert kb14; revert kb13; revert kb11; revert kb10; revert kb7; revert kb3; refine uA hb36 ?_; clear hb36; intro kb3 qb3 kb7 qb7 kb10 qb10 kb11 qb11 kb13 qb13 kb14 qb14 HL20 HB; have cb10 := clx kb10; have zb10 := kb10.2.2; refine pl ?_; refine sto kb10 ?_; clear kb10 cb10 zb10; intro w37 kb10 hb38; clear qb3 qb7 qb10 qb11 qb13 qb14; replace hR2 := (by first | exact RdSt.old hR2 hb38 | exact RdSt.oldK hR2 (HFa.out _ (by omega)).2 hb38); replace hR1n := (by first | exact RdSt.old hR1n hb38 | exact RdSt.oldK hR1n (HF1n.out _ (by omega)) hb38); replace hR2n := (by first | exact RdSt.old hR2n hb38 | exact RdSt.oldK hR2n (HF2n.out _ (by omega)) hb38); revert HB; revert HL20; revert kb14; revert kb13; revert kb11; revert kb7; revert kb3; refine uO hb38 ?_; clear hb38; intro kb3 qb3 kb7 qb7 kb11 qb11 kb13 qb13 kb14 qb14 HL20 HB; have qb10 := kb10.1; have cb11 := clx kb11; have zb11 := kb11.2.2; refine pl ?_; refine sto kb11 ?_; clear kb11 cb11 zb11; intro w39 kb11 hb40; clear qb3 qb7 qb10 qb11 qb13 qb14; replace hR2 := (by first | exact RdSt.old hR2 hb40 | exact RdSt.oldK hR2 (HFa.out _ (by omega)).2 hb40); replace hR1n := (by first | exact RdSt.old hR1n hb40 | exact RdSt.oldK hR1n (HF1n.out _ (by omega)) hb40); replace hR2n := (by first | exact RdSt.old hR2n hb40 | exact RdSt.oldK hR2n (HF2n.out _ (by omega)) hb40); revert HB; revert HL20; revert kb14; revert kb13; revert kb10; revert kb7; revert kb3; refine uO hb40 ?_; clear hb40; intro kb3 qb3 kb7 qb7 kb10 qb10 kb13 qb13 kb14 qb14 HL20 HB; have qb11 := kb11.1; clear sl41 sl42 sl43 sl45; refine lx [] ?_; clear sl1 sl2 sl7 sl10 sl11 sl12 sl13 sl14; intro s41 sl1 sl2 sl7 sl10 sl11 sl12 sl13 sl14; refine lr ?_; intros; refine pl ?_; have cb11 := clx kb11; refine P2 ?_; have cb13 := clx kb13; have zb13 := kb13.2.2; refine pl ?_; refine sto kb13 ?_; clear kb13 cb11 cb13 zb13; intro w42 kb13 hb43; clear qb3 qb7 qb10 qb11 qb13 qb14; replace hR2 := (by first | exact RdSt.old hR2 hb43 | exact RdSt.oldK hR2 (HFa.out _ (by omega)).2 hb43); replace hR1n := (by first | exact RdSt.old hR1n hb43 | exact RdSt.oldK hR1n (HF1n.out _ (by omega)) hb43); replace hR2n := (by first | exact RdSt.old hR2n hb43 | exact RdSt.oldK hR2n (HF2n.out _ (by omega)) hb43); revert HB; revert HL20; revert kb14; revert kb11; revert kb10; revert kb7; revert kb3; refine uO hb43 ?_; clear hb43; intro kb3 qb3 kb7 qb7 kb10 qb10 kb11 qb11 kb14 qb14 HL20 HB; have qb13 := kb13.1; refine lx [] ?_; clear sl1 sl2 sl7 sl10 sl11 sl12 sl13 sl14; intro s44 sl1 sl2 sl7 sl10 sl11 sl12 sl13 sl14; refine lr ?_; intros; refine pl ?_; have cb11 := clx kb11; refine P2 ?_; obtain ⟨cb14_0, cb14_1, cb14_2, cb14_3, cb14_4, cb14_5, cb14_6, cb14_7⟩ := cl8 kb14; refine P2 ?_; refine lx [54] ?_; clear sl1 sl2 sl7 sl10 sl11 sl12 sl13 sl14; intro s45 sl1 sl2 sl7 sl10 sl11 sl12 sl13 sl14 sl54; refine ln ?_; intros
    refine cond_E sl54 (by decide) ?_ ?_ <;> (clear sl54; intro h54 sl54)
    ·skip
     have hlt : s2.done < t2.done := by simpa using h54
     have hpc := HO2.out.pc; obtain ⟨p, hp⟩ : ∃ n : Nat, s2.pc = n := ⟨s2.pc.toNat, by omega⟩; have hl2 := HO2.out.l0
     have hps : p < s2.store.length := by omega
     have hpp : (p : Int) < s2.store.length := by omega
     obtain ⟨bs, os, hae, hbs, d0⟩ := RdInts.ne hR2.st hps; obtain ⟨x, hx⟩ : ∃ x, s2.store[p] = x := ⟨_, rfl⟩; rw [hx] at d0; have hxw := HO2.out.w0 x (by rw [← hx]; exact List.getElem_mem hps); have Hor := hid (show orderOf s2 = decodeO x by unfold orderOf; rw [hp, Int.toNat_natCast, List.getD_eq_getElem?_getD, List.getElem?_eq_getElem hps, Option.getD_some, hx]); rw [hp, hae] at kb14; rw [hae] at cb14_0; rw [hp] at cb14_5; have Hp := hid hp; have Hst := hid (show stepOf s2 t2 = ⟨s2.pc, decodeO x, s2.time, t2.time⟩ by unfold stepOf; rw [if_pos hlt, Hor.out]); clear hp hae hl2 hx
     refine nr ?_; intros
     refine P6 ?_
     refine cal (rDecode_ok x _ hxw) ?_; rintro e w46 ⟨rfl, hb47⟩; refine ⟨_, rfl, ?_⟩; clear cb11 cb14_0 cb14_1 cb14_2 cb14_3 cb14_4 cb14_5 cb14_6 cb14_7; clear qb3 qb7 qb10 qb11 qb13 qb14; replace hR2 := RdSt.at hR2 hb47; replace hR1n := RdSt.at hR1n hb47; replace hR2n := RdSt.at hR2n hb47; revert HB; revert HL20; revert kb14; revert kb13; revert kb11; revert kb10; revert kb7; revert kb3; refine uA hb47 ?_; clear hb47; intro kb3 qb3 kb7 qb7 kb10 qb10 kb11 qb11 kb13 qb13 kb14 qb14 HL20 HB
     refine P4 ?_
     have cb13 := clx kb13; have zb13 := kb13.2.2; refine pl ?_; refine sto kb13 ?_; clear kb13 cb13 zb13; intro w48 kb13 hb49; clear qb3 qb7 qb10 qb11 qb13 qb14; replace hR2 := (by first | exact RdSt.old hR2 hb49 | exact RdSt.oldK hR2 (HFa.out _ (by omega)).2 hb49); replace hR1n := (by first | exact RdSt.old hR1n hb49 | exact RdSt.oldK hR1n (HF1n.out _ (by omega)) hb49); replace hR2n := (by first | exact RdSt.old hR2n hb49 | exact RdSt.oldK hR2n (HF2n.out _ (by omega)) hb49); revert HB; revert HL20; revert kb14; revert kb11; revert kb10; revert kb7; revert kb3; refine uO hb49 ?_; clear hb49; intro kb3 qb3 kb7 qb7 kb10 qb10 kb11 qb11 kb14 qb14 HL20 HB; have qb13 := kb13.1; clear sl14 sl54; refine lx [] ?_; clear sl1 sl2 sl7 sl10 sl11 sl12 sl13; intro s50 sl1 sl2 sl7 sl10 sl11 sl12 sl13; refine lr ?_; intros; have cb10 := clx kb10; refine pl ?_; have cb11 := clx kb11; refine pl ?_; refine cal (rstates_any t1 A1n t2 A2n _ hR1n hR2n HT1.out.len HT2.out.len) ?_; rintro e w51 ⟨rfl, hb52⟩; refine ⟨_, rfl, ?_⟩; clear cb10 cb11; clear qb3 qb7 qb10 qb11 qb13 qb14; replace hR2 := RdSt.at hR2 hb52; replace hR1n := RdSt.at hR1n hb52; replace hR2n := RdSt.at hR2n hb52; revert HB; revert HL20; revert kb14; revert kb13; revert kb11; revert kb10; revert kb7; revert kb3; refine uA hb52 ?_; clear hb52; intro kb3 qb3 kb7 qb7 kb10 qb10 kb11 qb11 kb13 qb13 kb14 qb14 HL20 HB; refine pl ?_; refine lx [69] ?_; clear sl1 sl2 sl7 sl10 sl11 sl12 sl13; intro s53 sl1 sl2 sl7 sl10 sl11 sl12 sl13 sl69; refine ln ?_; intros
     refine cond_E sl69 (by decide) ?_ ?_ <;> (clear sl69; intro h69 sl69)
     ·skip
      clear hR1n hR2n hR2
      have hne : t1 ≠ t2 := by simpa using h69
      have e9 := Hfr.out.symm.trans (firstR_at (by rw [HA.out]; exact he) hi Hu.out (by rw [firstU_in Ht1.out Ht2.out]; exact decide_eq_true hne)); rw [Hs2.out, Ht2.out, Hst.out] at e9
      obtain ⟨rfl, rfl, rfl⟩ : n = (i : Int) ∧ st = _ ∧ er = 0 := by simpa using e9
      refine zx ?_; intros
      have cb3 := clx kb3; obtain ⟨cb7_0, cb7_1, cb7_2, cb7_3, cb7_4, cb7_5, cb7_6⟩ := cl7 kb7; have cb10 := clx kb10; have cb11 := clx kb11; have cb13 := clx kb13; obtain ⟨cb14_0, cb14_1, cb14_2, cb14_3, cb14_4, cb14_5, cb14_6, cb14_7⟩ := cl8 kb14; refine rgQ 3 [?_,?_,?_] ?walk38 ?dep38
      case walk38 =>
       iterate 3 refine rq ?_
       refine walkR_nil (fun X hX w54 hwz hcz => ?_); clear hX hcz
       (try clear X)
       skip; have hb55 := hwz.unDrew; clear hwz; clear cb10 cb11 cb13 cb14_0 cb14_1 cb14_2 cb14_3 cb14_4 cb14_5 cb14_6 cb14_7 cb3 cb7_0 cb7_1 cb7_2 cb7_3 cb7_4 cb7_5 cb7_6; clear qb3 qb7 qb10 qb11 qb13 qb14; revert HB; revert HL20; revert kb14; revert kb13; revert kb11; revert kb10; revert kb7; revert kb3; refine uO hb55 ?_; clear hb55; intro kb3 qb3 kb7 qb7 kb10 qb10 kb11 qb11 kb13 qb13 kb14 qb14 HL20 HB; obtain ⟨cb7_0, cb7_1, cb7_2, cb7_3, cb7_4, cb7_5, cb7_6⟩ := cl7 kb7; have zb7 := kb7.2.2; refine pl ?_; refine sto kb7 ?_; clear kb7 cb7_0 cb7_1 cb7_2 cb7_3 cb7_4 cb7_5 cb7_6 zb7; intro w56 kb7 hb57; clear qb3 qb7 qb10 qb11 qb13 qb14; revert kb14; revert kb13; revert kb11; revert kb10; revert kb3; refine zO hb57 ?_; intro kb3 kb10 kb11 kb13 kb14; clear HL20; replace HB := mO HB hb57; clear hb57; have qb3 := kb3.1; have qb7 := kb7.1; have qb10 := kb10.1; have qb11 := kb11.1; have qb13 := kb13.1; have qb14 := kb14.1; refine pl ?_; clear sl1 sl2 sl10 sl11 sl12 sl13 sl69; refine lx [6,8] ?_; clear sl7; intro s58 sl7 sl6 sl8; refine ln ?_; intros
       obtain ⟨cb7_0, cb7_1, cb7_2, cb7_3, cb7_4, cb7_5, cb7_6⟩ := cl7 kb7; refine XW55e ?_; exact ⟨rfl, HB.out.toBelow⟩
      case dep38 => exact dA
     ·skip
      have heq : t1 = t2 := by simpa using h69
      have Hun := hid (show firstU s fs i = false by rw [firstU_in Ht1.out Ht2.out]; exact decide_eq_false (fun h => h heq))
      refine nr ?_; intros
      refine P3 ?_
      clear sl12 sl13 sl69; refine lx [12] ?_; clear sl1 sl2 sl7 sl10 sl11; intro s59 sl1 sl2 sl7 sl10 sl11 sl12; refine ln ?_; intros
      refine ⟨_, _, rfl, ?_, i + 1, A1n, A2n, rfl, (rL sl12), (sl1.trans hc0_1.out.symm), (sl2.trans hc0_2.out.symm), (sl7.trans hc0_7.out.symm), (sl10.trans hc0_10.out.symm), (sl11.trans hc0_11.out.symm), HL20.out, (by rw [Ht1.out]; exact kb10), (by rw [Ht2.out]; exact kb11), by omega, (by rw [Ht1.out]; exact hR1n), (by rw [Ht2.out]; exact hR2n), hid (by rw [Ht1.out, Ht2.out]; exact ⟨HF1n.out _ (by omega), HF1n.out _ (by omega), HF2n.out _ (by omega), HF2n.out _ (by omega)⟩), hid (fun j hj => by rcases Nat.lt_or_ge j i with h | h; exact Hu.out j h; have e : j = i := (by omega); subst e; exact Hun.out)⟩
      omega
    ·skip
     have hlt : ¬ s2.done < t2.done := by simpa using h54
     have Hst := hid (show stepOf s2 t2 = ⟨s2.pc, ⟨0, 0, 0, 0⟩, s2.time, t2.time⟩ by unfold stepOf; rw [if_neg hlt])
     refine nr ?_; intros; have cb10 := clx kb10; refine P2 ?_; refine cal (rstates_any t1 A1n t2 A2n _ hR1n hR2n HT1.out.len HT2.out.len) ?_; rintro e w60 ⟨rfl, hb61⟩; refine ⟨_, rfl, ?_⟩; clear cb10 cb11 cb14_0 cb14_1 cb14_2 cb14_3 cb14_4 cb14_5 cb14_6 cb14_7; clear qb3 qb7 qb10 qb11 qb13 qb14; replace hR2 := RdSt.at hR2 hb61; replace hR1n := RdSt.at hR1n hb61; replace hR2n := RdSt.at hR2n hb61; revert HB; revert HL20; revert kb14; revert kb13; revert kb11; revert kb10; revert kb7; revert kb3; refine uA hb61 ?_; clear hb61; intro kb3 qb3 kb7 qb7 kb10 qb10 kb11 qb11 kb13 qb13 kb14 qb14 HL20 HB; refine pl ?_; clear sl14 sl54; refine lx [69] ?_; clear sl1 sl2 sl7 sl10 sl11 sl12 sl13; intro s62 sl1 sl2 sl7 sl10 sl11 sl12 sl13 sl69; refine ln ?_; intros
     refine cond_E sl69 (by decide) ?_ ?_ <;> (clear sl69; intro h69 sl69)
     ·skip
      clear hR1n hR2n hR2
      have hne : t1 ≠ t2 := by simpa using h69
      have e9 := Hfr.out.symm.trans (firstR_at (by rw [HA.out]; exact he) hi Hu.out (by rw [firstU_in Ht1.out Ht2.out]; exact decide_eq_true hne)); rw [Hs2.out, Ht2.out, Hst.out] at e9
      obtain ⟨rfl, rfl, rfl⟩ : n = (i : Int) ∧ st = _ ∧ er = 0 := by simpa using e9
      refine zx ?_; intros
      have cb3 := clx kb3; obtain ⟨cb7_0, cb7_1, cb7_2, cb7_3, cb7_4, cb7_5, cb7_6⟩ := cl7 kb7; have cb10 := clx kb10; have cb11 := clx kb11; have cb13 := clx kb13; obtain ⟨cb14_0, cb14_1, cb14_2, cb14_3, cb14_4, cb14_5, cb14_6, cb14_7⟩ := cl8 kb14; refine rgQ 3 [?_,?_,?_] ?walk39 ?dep39
      case walk39 =>
       iterate 3 refine rq ?_
       refine walkR_nil (fun X hX w63 hwz hcz => ?_); clear hX hcz
       (try clear X)
       skip; have hb64 := hwz.unDrew; clear hwz; clear cb10 cb11 cb13 cb14_0 cb14_1 cb14_2 cb14_3 cb14_4 cb14_5 cb14_6 cb14_7 cb3 cb7_0 cb7_1 cb7_2 cb7_3 cb7_4 cb7_5 cb7_6; clear qb3 qb7 qb10 qb11 qb13 qb14; revert HB; revert HL20; revert kb14; revert kb13; revert kb11; revert kb10; revert kb7; revert kb3; refine uO hb64 ?_; clear hb64; intro kb3 qb3 kb7 qb7 kb10 qb10 kb11 qb11 kb13 qb13 kb14 qb14 HL20 HB; obtain ⟨cb7_0, cb7_1, cb7_2, cb7_3, cb7_4, cb7_5, cb7_6⟩ := cl7 kb7; have zb7 := kb7.2.2; refine pl ?_; refine sto kb7 ?_; clear kb7 cb7_0 cb7_1 cb7_2 cb7_3 cb7_4 cb7_5 cb7_6 zb7; intro w65 kb7 hb66; clear qb3 qb7 qb10 qb11 qb13 qb14; revert kb14; revert kb13; revert kb11; revert kb10; revert kb3; refine zO hb66 ?_; intro kb3 kb10 kb11 kb13 kb14; clear HL20; replace HB := mO HB hb66; clear hb66; have qb3 := kb3.1; have qb7 := kb7.1; have qb10 := kb10.1; have qb11 := kb11.1; have qb13 := kb13.1; have qb14 := kb14.1; refine pl ?_; clear sl1 sl2 sl10 sl11 sl12 sl13 sl69; refine lx [6,8] ?_; clear sl7; intro s67 sl7 sl6 sl8; refine ln ?_; intros
       obtain ⟨cb7_0, cb7_1, cb7_2, cb7_3, cb7_4, cb7_5, cb7_6⟩ := cl7 kb7; refine XW55e ?_; exact ⟨rfl, HB.out.toBelow⟩
      case dep39 => exact dA
     ·skip
      have heq : t1 = t2 := by simpa using h69
      have Hun := hid (show firstU s fs i = false by rw [firstU_in Ht1.out Ht2.out]; exact decide_eq_false (fun h => h heq))
      refine nr ?_; intros
      refine P3 ?_
      clear sl12 sl13 sl69; refine lx [12] ?_; clear sl1 sl2 sl7 sl10 sl11; intro s68 sl1 sl2 sl7 sl10 sl11 sl12; refine ln ?_; intros
      refine ⟨_, _, rfl, ?_, i + 1, A1n, A2n, rfl, (rL sl12), (sl1.trans hc0_1.out.symm), (sl2.trans hc0_2.out.symm), (sl7.trans hc0_7.out.symm), (sl10.trans hc0_10.out.symm), (sl11.trans hc0_11.out.symm), HL20.out, (by rw [Ht1.out]; exact kb10), (by rw [Ht2.out]; exact kb11), by omega, (by rw [Ht1.out]; exact hR1n), (by rw [Ht2.out]; exact hR2n), hid (by rw [Ht1.out, Ht2.out]; exact ⟨HF1n.out _ (by omega), HF1n.out _ (by omega), HF2n.out _ (by omega), HF2n.out _ (by omega)⟩), hid (fun j hj => by rcases Nat.lt_or_ge j i with h | h; exact Hu.out j h; have e : j = i := (by omega); subst e; exact Hun.out)⟩
      omega
   ·skip
    clear hR1 hR2
    have hi : i = mn := by have h := h27; simp at h; omega
    have e9 := Hfr.out.symm.trans (firstR_no (most := mn) (by rw [HA.out]; exact he) (fun j hj => Hu.out j (by omega)))
    obtain ⟨rfl, rfl, rfl⟩ : n = 0 ∧ st = Stp4.zero ∧ er = 9 := by simpa using e9
    refine zx ?_; intros
    clear HL20; clear hc0_1 hc0_2 hc0_7 hc0_10 hc0_11; refine region_F ?_; refine P2 ?_; obtain ⟨cb7_0, cb7_1, cb7_2, cb7_3, cb7_4, cb7_5, cb7_6⟩ := cl7 kb7; have zb7 := kb7.2.2; refine pl ?_; refine sto kb7 ?_; clear kb7 cb7_0 cb7_1 cb7_2 cb7_3 cb7_4 cb7_5 cb7_6 zb7; intro w69 kb7 hb70; clear qb3 qb7 qb10 qb11; revert HB; revert kb11; revert kb10; revert kb3; refine uO hb70 ?_; clear hb70; intro kb3 qb3 kb10 qb10 kb11 qb11 HB; have qb7 := kb7.1; refine pl ?_; clear sl1 sl2 sl10 sl11 sl12 sl27; refine lx [6,8] ?_; clear sl7; intro s71 sl7 sl6 sl8; refine ln ?_; intros
    obtain ⟨cb7_0, cb7_1, cb7_2, cb7_3, cb7_4, cb7_5, cb7_6⟩ := cl7 kb7; refine XW55e ?_; exact ⟨rfl, HB.out.toBelow⟩
  case dep37 =>
    refine dR ?_; refine dR ?_; refine depR_cons (fun X X' h => ?_) ?_
    · (first | exact ⟨rfl, rfl⟩ | (have e2 := h 2 (by decide +kernel); constructor <;> (first | rfl | (simp only [e2]))))
    refine depR_cons (fun X X' h => ?_) ?_
    · (first | exact ⟨rfl, rfl⟩ | (have e3 := h 3 (by decide +kernel); constructor <;> (first | rfl | (simp only [e3]))))
    refine depR_cons (fun X X' h => ?_) ?_
    · exact XW55d
    refine depR_cons (fun X X' h => ?_) ?_
    · exact XW55d
    exact depR_nil

end Go.Proofs.YtleknidlgmmgbaaGreat
