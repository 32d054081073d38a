/- The program: Trace's tell. -/
import Derived.Test.YtleknidlgmmgbaaGreattsW30
import Derived.Test.YtleknidlgmmgbaaGreattsG13
import Derived.Test.YtleknidlgmmgbaaGreattsT4
import Derived.Test.YtleknidlgmmgbaaGreattsW16
import Derived.Test.YtleknidlgmmgbaaGreattsCZ
set_option linter.all false
namespace Go.Proofs.YtleknidlgmmgbaaGreat

section
open Go.RowKit


/-- how many orders are done ahead of a stretch -/
def nn (every most i : Nat) : Nat := min most (i * every)
theorem nn_zero (every most : Nat) : nn every most 0 = 0 := by unfold nn; simp
theorem nn_lt {every most i : Nat} (h : nn every most i < most) : nn every most i = i * every := by unfold nn at *; omega
theorem nn_le (every most i : Nat) : nn every most i ≤ most := by unfold nn; omega
theorem nn_succ {every most i : Nat} (h : nn every most i < most) : nn every most (i + 1) = nn every most i + min every (most - nn every most i) := by
  have := nn_lt h; rw [this]; unfold nn; rw [Nat.add_mul, Nat.one_mul]; omega
theorem nn_cnt {every most i : Nat} (he : 1 ≤ every) (h : nn every most i < most) : i < cntN every most := by
  rcases Nat.lt_or_ge i (cntN every most) with h1 | h1
  · exact h1
  · have := cnt_last he h1; have := nn_lt h; omega
theorem nn_end {every most i : Nat} (h : ¬ nn every most i < most) : nn every most i = most := by have := nn_le every most i; omega
theorem run12_add (s : St4) (fs : List Flt) (a b : Nat) : after12 fs a b (run12 s fs a) = run12 s fs (a + b) := by
  unfold run12; rw [after_add, Nat.zero_add]
theorem cnt_end {every most i : Nat} (he : 1 ≤ every) (hi : i ≤ cntN every most) (h : ¬ nn every most i < most) : i = cntN every most := by
  rcases Nat.lt_or_ge i (cntN every most) with h1 | h1
  · have := end_gt he h1
    unfold nn at h; omega
  · omega
theorem cnt_le {every most : Nat} (he : 1 ≤ every) : cntN every most ≤ most := by
  unfold cntN; obtain ⟨e, rfl⟩ : ∃ e, every = e + 1 := ⟨every - 1, by omega⟩
  cases most with
  | zero => rw [Nat.div_eq_of_lt (by omega)]; exact Nat.le_refl _
  | succ m => refine Nat.div_le_of_le_mul ?_; rw [Nat.mul_succ, Nat.add_mul, Nat.one_mul]; omega

set_option maxRecDepth 100000 in
set_option maxHeartbeats 4000000 in
theorem stretches1_any (av : List Nat) (s : St4) (M X Y Z L : Nat) (fs : List Flt) (every most : Nat) (I : Nat → List Nat → World → Prop) (Dn : World → Prop) (w : World) (hO : OkI s) (hfo : FOk fs) (hf10 : fs.length ≤ 10) (he : 1 ≤ every ∧ every ≤ 1000) (hm : most ≤ 1000) (hT0 : TW av w M s fs 0) (nX : X ≠ M) (nY : Y ≠ M) (nZ : Z ≠ M) (hI0 : I 0 av w) (hI : ∀ i av W W', I i av W → OldB [M] W W' → I i av W') (hC : ∀ i av W, I i av W → Cells W X [.pointer (some ⟨M, 0, none⟩)] ∧ Cells W Y [.int .i64 (most : Int)] ∧ Cells W Z [.int .i64 (every : Int)] ∧ ∀ k ∈ av, k < W.heap.size) (hy : ∀ (i : Nat) (av : List Nat) (A : SA) (W : World), i < cntN every most → TW av W M (run12 s fs (nn every most (i + 1))) fs ((nn every most (i + 1) : Nat) : Int) → RdSt W (run12 s fs (nn every most i)) A → (∀ k ∈ M :: av, A.free (run12 s fs (nn every most i)) k) → I i av W → YieldAt Fence.wide 0 Tryz.prog L #[.int .i64 (i : Int), .agg #[.slice A.sa (run12 s fs (nn every most i)).store.length A.sc, .slice A.ta (run12 s fs (nn every most i)).tape.length A.tc, .int .i64 (run12 s fs (nn every most i)).taken, .slice A.pa (run12 s fs (nn every most i)).printed.length A.pc, .int .i64 (run12 s fs (nn every most i)).time, .int .i64 (run12 s fs (nn every most i)).pc, .int .i64 (run12 s fs (nn every most i)).done, .int .i64 (run12 s fs (nn every most i)).why]] W fun e W' => (e = .returned (.bool true) ∧ ∃ av', TW av' W' M (run12 s fs (nn every most (i + 1))) fs ((nn every most (i + 1) : Nat) : Int) ∧ I (i + 1) av' W') ∨ (e = .returned (.bool false) ∧ Dn W')) :
    Calls Tryz.prog 80 #[.func (.yield L) #[] #[], .pointer (some ⟨X, 0, none⟩), .pointer (some ⟨Y, 0, none⟩), .pointer (some ⟨Z, 0, none⟩)] w (fun e w' => (∃ v, e = .returned v) ∧ ((∃ av, TW av w' M (run12 s fs most) fs (most : Int) ∧ I (cntN every most) av w') ∨ Dn w')) := by
 have hmf := hmf; have HO := hid hO; have Hfo := hid hfo; have Hi := hid hI; have Hc := hid hC; have Hy := hid hy; clear hO hfo hI hC hy; obtain ⟨kX', kY', kZ', -⟩ := Hc.out _ _ _ hI0; obtain ⟨he1, he2⟩ := he; have hcl := cnt_le (most := most) he1; have kX := kX'; have kY := kY'; have kZ := kZ'
 refine enter_F Tryz.func80 rfl Tryz.ntmps80 (by simp) ?_
 intro s0 hs; have sl0 : s0 0 = .func (.yield L) #[] #[] := hs 0 (by simp); have sl1 : s0 1 = .pointer (some ⟨X, 0, none⟩) := hs 1 (by simp); have sl2 : s0 2 = .pointer (some ⟨Y, 0, none⟩) := hs 2 (by simp); have sl3 : s0 3 = .pointer (some ⟨Z, 0, none⟩) := hs 3 (by simp); clear hs; have HB := hid (OldB.refl [M] w); have qX := kX.1; have qY := kY.1; have qZ := kZ.1
 refine nr ?_; intros; have cX_0 := kX.cell 0 rfl
 refine P3 ?_
 refine lx [5] ?_; clear sl0 sl1 sl2 sl3; intro _ sl0 sl1 sl2 sl3 sl5; refine lr ?_; intros; refine pl ?_; refine lx [6] ?_; clear sl0 sl1 sl2 sl3 sl5; intro s2 sl0 sl1 sl2 sl3 sl5 sl6; refine ln ?_; intros
 clear cX_0; clear qX qY qZ; have hc0_0 := hid sl0; have hc0_1 := hid sl1; have hc0_2 := hid sl2; have hc0_3 := hid sl3; have hc0_5 := hid sl5; refine loop_F (n := 37) (fun kJ sJ wJ => ∃ (i : Nat) (av : List Nat), kJ = cntN every most - i ∧ sJ 6 = .int .i64 (i : Int) ∧ sJ 0 = s2 0 ∧ sJ 1 = s2 1 ∧ sJ 2 = s2 2 ∧ sJ 3 = s2 3 ∧ sJ 5 = s2 5 ∧ i ≤ cntN every most ∧ TW av wJ M (run12 s fs (nn every most i)) fs ((nn every most i : Nat) : Int) ∧ I i av wJ) ⟨0, av, rfl, (by first | exact sl6 | (rw [sl6]; go_num) | (rw [sl6]; rfl)), rfl, rfl, rfl, rfl, rfl, Nat.zero_le _, (by rw [nn_zero]; exact hT0), hI0⟩ ?_; clear sl6 kX kY kZ HB; rintro kJ s3 w4 ⟨i, av, rfl, sl6, e0, e1, e2, e3, e5, hil, hT, hIp⟩; replace sl0 := e0.trans sl0; clear e0; replace sl1 := e1.trans sl1; clear e1; replace sl2 := e2.trans sl2; clear e2; replace sl3 := e3.trans sl3; clear e3; replace sl5 := e5.trans sl5; clear e5; have HB := hid (OldB.refl [M] w4)
 (try clear hI0 hT0)
 obtain ⟨kX', kY', kZ', hws⟩ := Hc.out _ _ _ hIp; have hT9 := hT; obtain ⟨A, bm, km, gm, kM', hR, hfM, hmp, hbm, hmq, hMav, hbav, hAv⟩ := hT9; clear hmp hmq hbm hMav hbav; have HAf := hid (show ∀ k ∈ M :: av, A.free (run12 s fs (nn every most i)) k from fun k hk => by rcases List.mem_cons.1 hk with h | h; exact h ▸ hfM; exact hAv k h); clear hAv; obtain ⟨c, hc⟩ : ∃ c, run12 s fs (nn every most i) = c := ⟨_, rfl⟩; rw [hc] at kM' hR hfM hT; have Hc1 := hid hc; clear hc; obtain ⟨an, han⟩ : ∃ n, nn every most i = n := ⟨_, rfl⟩; rw [han] at kM' hT; have Han := hid han
 have hanm : an ≤ most := by rw [← han]; exact nn_le _ _ _
 clear han; have hMs := kM'.1; have wms : IntKind.i64.wrap ((most : Int) - (an : Int)) = (most : Int) - (an : Int) := IntWalk.i64_in _ (by omega); have kX := kX'; clear kX'; have qX := kX.1; have kY := kY'; clear kY'; have qY := kY.1; have kZ := kZ'; clear kZ'; have qZ := kZ.1; have kM := kM'; clear kM'; have qM := kM.1
 refine zx ?_; intros
 have cX_0 := kX.cell 0 rfl; have cY_0 := kY.cell 0 rfl; have cZ_0 := kZ.cell 0 rfl; have cM := clx kM; refine regionQ_F (Below w4.heap.size w4) (by kernel_rfl) (by kernel_rfl) (Below.refl _ _).drew ?_
 iterate 6 refine lq ?_
 refine listQ_nil ?_; intro w5 hb; clear cM cX_0 cY_0 cZ_0; clear qX qY qZ qM; replace hT := TW.at hT hb; replace hIp := Hi.out _ _ _ _ hIp (OldB.nil hb); replace hR := RdSt.at hR hb; revert HB; revert kM; revert kZ; revert kY; revert kX; refine uA hb ?_; clear hb; intro kX qX kY qY kZ qZ kM qM HB
 refine zx ?_; intros
 refine wp_abs (fun _ z' => ?_); replace sl0 := slg z' sl0; replace sl1 := slg z' sl1; replace sl2 := slg z' sl2; replace sl3 := slg z' sl3; replace sl5 := slg z' sl5; replace sl6 := slg z' sl6; have sl15 := gu 15 z'; clear z'
 refine cond_E sl15 (by decide) ?_ ?_ <;> (clear sl15; intro h15 sl15)
 ·skip
  have hlt : an < most := by simpa using h15
  have hi : i < cntN every most := nn_cnt he1 (by rw [Han.out]; exact hlt); have hsu := nn_succ (every := every) (most := most) (i := i) (by rw [Han.out]; exact hlt); rw [Han.out] at hsu; have Hsu := hid hsu; clear hsu
  refine nr ?_; intros; have cX_0 := kX.cell 0 rfl
  refine P3 ?_
  have cM := clx kM; refine pl ?_; have HN := hid (OldB.refl [] w5); refine pa (fun _ B7 hB kb7 hb => ?_); have gb7 := HB.out.gB hB; have lHN_b7 := HN.out.gB hB; have oX_b7 := oB qX hB; have oY_b7 := oB qY hB; have oZ_b7 := oB qZ hB; have oM_b7 := oB qM hB; have eb7 := eB hB; clear hB; clear cM cX_0; clear qX qY qZ qM; revert HB; revert HN; revert kM; revert kZ; revert kY; revert kX; refine uA hb ?_; clear hb; intro kX qX kY qY kZ qZ kM qM HN HB; have qb7 := kb7.1; have cb7 := clx kb7; have zb7 := kb7.2.2; refine pl ?_; refine sto kb7 ?_; clear kb7 cb7 zb7; intro _ kb7 hb; clear qX qY qZ qM qb7; revert HB; revert HN; revert kM; revert kZ; revert kY; revert kX; refine uO hb ?_; clear hb; intro kX qX kY qY kZ qZ kM qM HN HB; have qb7 := kb7.1; replace hT := TW.at hT HN.out.toBelow; replace hIp := Hi.out _ _ _ _ hIp (OldB.nil HN.out.toBelow); replace hR := RdSt.at hR HN.out.toBelow; clear HN; clear sl15; refine lx [7] ?_; clear sl0 sl1 sl2 sl3 sl5 sl6; intro _ sl0 sl1 sl2 sl3 sl5 sl6 sl7; refine ln ?_; intros
  have cX_0 := kX.cell 0 rfl; have cY_0 := kY.cell 0 rfl; have cZ_0 := kZ.cell 0 rfl; have cM := clx kM; have cb7 := clx kb7; refine rgQ 9 [?_,?_,?_,?_,?_,?_,?_,?_,?_] ?walk20 ?dep20
  case walk20 =>
   iterate 9 refine rq ?_
   refine walkR_nil (fun X hX w13 hwz hcz => ?_); clear hX hcz
   (try clear X)
   skip; have hb := hwz.unDrew; clear hwz; clear cM cX_0 cY_0 cZ_0 cb7; clear qX qY qZ qM qb7; replace hT := TW.old hT hb (by simp); replace hIp := Hi.out _ _ _ _ hIp (OldB.subset hb (by simp)); replace hR := RdSt.old hR hb; revert HB; revert kb7; revert kM; revert kZ; revert kY; revert kX; refine uO hb ?_; clear hb; intro kX qX kY qY kZ qZ kM qM kb7 qb7 HB; clear qM kM; refine lx [22,30] ?_; clear sl0 sl1 sl2 sl3 sl5 sl6 sl7; intro _ sl0 sl1 sl2 sl3 sl5 sl6 sl7 sl22 sl30; (first | rw [show (if (most : Int) - (an : Int) < (every : Int) then (most : Int) - (an : Int) else (every : Int)) = ((nn every most (i + 1) - an : Nat) : Int) from (by have := Hsu.out; split <;> omega)] at sl30 | rw [show min (every : Int) ((most : Int) - (an : Int)) = ((nn every most (i + 1) - an : Nat) : Int) from (by have := Hsu.out; omega)] at sl30); refine cal (trun_any av c M fs an (nn every most (i + 1) - an) _ hT (fun k hk => Nat.lt_of_lt_of_le (hws k hk) HB.out.size) (by rw [← Hc1.out]; exact after_ok Hfo.out HO.out) Hfo.out hf10 (by have := nn_le every most (i + 1); have := Hsu.out; omega)) ?_; rintro e w16 ⟨rfl, hT9, hb⟩; replace HB := hid (HB.out.more hb (by simp)); replace kX := kX.oldB hb (by simp; omega); replace kY := kY.oldB hb (by simp; omega); replace kZ := kZ.oldB hb (by simp; omega); replace kb7 := kb7.oldB hb (by simp; omega); replace hIp := Hi.out _ _ _ _ hIp hb; replace hR := RdSt.oldK hR hfM hb
   have hT4 : TW av w16 M (run12 s fs (nn every most (i + 1))) fs ((nn every most (i + 1) : Nat) : Int) := by have e : an + (nn every most (i + 1) - an) = nn every most (i + 1) := (by have := Hsu.out; omega); rw [e] at hT9; rw [← Hc1.out, Han.out, run12_add, e] at hT9; exact hT9
   clear hT9 hb; refine ⟨_, rfl, ?_⟩; clear qX qY qZ qb7; have qX := kX.1; have qY := kY.1; have qZ := kZ.1; have qb7 := kb7.1; clear hT; clear sl22 sl30; refine lx [] ?_; clear sl0 sl1 sl2 sl3 sl5 sl6 sl7; intro _ sl0 sl1 sl2 sl3 sl5 sl6 sl7; refine ln ?_; intros
   refine region_yield (k := 3) (by kernel_rfl) ?_
   simp only [List.take_succ_cons, List.take_zero, List.drop_succ_cons, List.drop_zero]
   refine P2 ?_; have cb7 := clx kb7; refine pl ?_; clear sl7; refine lx [32,33,34] ?_; clear sl0 sl1 sl2 sl3 sl5 sl6; intro _ sl0 sl1 sl2 sl3 sl5 sl6 sl32 sl33 sl34; refine lsn ?_; clear cb7; clear qX qY qZ qb7; have Hz := Hy.out i av A w16 hi hT4 (by rw [Hc1.out]; exact hR) HAf.out hIp; rw [Hc1.out] at Hz; refine yield_inA (l := L) (d := 35) (vs := #[.int .i64 (i : Int), .agg #[.slice A.sa c.store.length A.sc, .slice A.ta c.tape.length A.tc, .int .i64 c.taken, .slice A.pa c.printed.length A.pc, .int .i64 c.time, .int .i64 c.pc, .int .i64 c.done, .int .i64 c.why]]) rfl (fun c h => by cases h) rfl ?_ Hz ?_
   · go_simp
   rintro e w20 (⟨rfl, av', hT5, hI5⟩ | ⟨rfl, hD5⟩)
   ·skip
    refine ⟨_, rfl, listF_in _ _ _ (by kernel_rfl) ?_⟩; clear Hz; clear kX kY kZ kb7 hIp hR HB; have HB := hid (OldB.refl [M] w20); refine pl ?_; clear sl32 sl33 sl34; refine lx [36] ?_; clear sl0 sl1 sl2 sl3 sl5 sl6; intro _ sl0 sl1 sl2 sl3 sl5 sl6 sl36; refine ln ?_; intros
    refine cond_f ?_
    refine nr ?_; intros
    refine P3 ?_
    clear sl6 sl36; refine lx [6] ?_; clear sl0 sl1 sl2 sl3 sl5; intro _ sl0 sl1 sl2 sl3 sl5 sl6; refine ln ?_; intros
    refine ⟨_, _, rfl, ?_, i + 1, av', rfl, (rL sl6), (sl0.trans hc0_0.out.symm), (sl1.trans hc0_1.out.symm), (sl2.trans hc0_2.out.symm), (sl3.trans hc0_3.out.symm), (sl5.trans hc0_5.out.symm), by omega, hT5, hI5⟩
    omega
   ·skip
    refine ⟨_, rfl, listF_in _ _ _ (by kernel_rfl) ?_⟩; clear Hz; clear kX kY kZ kb7 hIp hR HB; have HB := hid (OldB.refl [M] w20); refine pl ?_; clear sl32 sl33 sl34; refine lx [36] ?_; clear sl0 sl1 sl2 sl3 sl5 sl6; intro _ sl0 sl1 sl2 sl3 sl5 sl6 sl36; refine ln ?_; intros
    refine cond_t ?_
    refine zx ?_; intros
    refine ret_F _ (res_none Tryz.results80) ?_; exact ⟨⟨_, rfl⟩, .inr hD5⟩
  case dep20 => exact dA
 ·skip
  have hge : ¬ nn every most i < most := by rw [Han.out]; simpa using h15
  refine zx ?_; intros
  clear hc0_0 hc0_1 hc0_2 hc0_3 hc0_5; refine norm_F _ (res_none Tryz.results80) ?_; rw [← Hc1.out, ← Han.out, nn_end hge] at hT; have hie : i = cntN every most := cnt_end he1 hil hge; subst hie; exact ⟨⟨_, rfl⟩, .inl ⟨_, hT, hIp⟩⟩
end

section
open Go.RowKit


abbrev Stp4.cs (x : Stp4) : List Value := [.int .i64 x.pc, .int .i64 x.ord.op, .int .i64 x.ord.fr, .int .i64 x.ord.tt, .int .i64 x.ord.nx, .int .i64 x.time, .int .i64 x.til]
end


end Go.Proofs.YtleknidlgmmgbaaGreat
