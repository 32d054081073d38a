/- The program's order: Run. -/
import Derived.Test.YtleknidlgmmgbaaGreattaW15
import Derived.Test.YtleknidlgmmgbaaGreattaW50
import Derived.Test.YtleknidlgmmgbaaGreattaCX
set_option linter.all false
namespace Go.Proofs.YtleknidlgmmgbaaGreat

section
open Go.RowKit


theorem noGoto_n {Q : Exit → Act → World → Prop} {a : Act} {w : World} (h : Q .normal a w) : Exit.noGoto Q .normal a w := h
theorem noGoto_r {Q : Exit → Act → World → Prop} {a : Act} {w : World} (h : Q .ret a w) : Exit.noGoto Q .ret a w := h
theorem OM.nv {N : Nat} {av : List Nat} {w : World} {V : Nat} {s : St4} {o : Ord} (h : OM N av w V s o) {k : Nat} (hk : k ∈ av) : ¬ V = k := by
  obtain ⟨G, sc, ta, tc, pa, pc, h1, h2, h3, h4, h5, h6, h7, h8, h9, h10, h11⟩ := h
  exact fun e => (h11 k hk).1 e.symm
theorem OM.lt {N : Nat} {av : List Nat} {w : World} {V : Nat} {s : St4} {o : Ord} (h : OM N av w V s o) : V < w.heap.size := h.cells.2.1
theorem OM.avoid2 {N : Nat} {av : List Nat} {w w' : World} {V : Nat} {s : St4} {o : Ord} (h : OM N av w V s o) (ho : OldB [] w w') {k : Nat} (hk : w.heap.size ≤ k) : OM N (k :: av) w' V s o := (OM.avoid h hk).old ho (by simp)
theorem go_on {s : St4} (h : s.why = 0) : go4 s = step4 s := by unfold go4; rw [if_pos h]
theorem run_next {n i : Nat} {s cur : St4} (h : cur = run4 i s) (hw : cur.why = 0) : step4 cur = run4 (i + 1) s := by rw [run4_snoc, ← h, go_on hw]
theorem run_fin {n i : Nat} {s cur : St4} (h : cur = run4 i s) (hi : i ≤ n) (hw : cur.why ≠ 0) : cur = run4 n s := by
  rw [show n = i + (n - i) by omega, run4_add, ← h, run4_end hw]

set_option maxRecDepth 100000 in
set_option maxHeartbeats 1000000 in
theorem orun1_any (a b c d e f g : Int) (w : World) :
    Calls Tryz.prog 73 #[.agg #[.int .i64 a, .int .i64 b, .int .i64 c, .int .i64 d, .int .i64 e, .int .i64 f, .int .i64 g]] w (fun e w' => e = .returned (.tuple #[]) ∧ Below w.heap.size w w') := by
 refine enter_F Tryz.func73 rfl Tryz.ntmps73 (by simp) ?_
 intro s0 hs; have sl0 : s0 0 = .agg #[.int .i64 a, .int .i64 b, .int .i64 c, .int .i64 d, .int .i64 e, .int .i64 f, .int .i64 g] := hs 0 (by simp); clear hs; have HB := hid (OldB.refl [] w)
 repeat ((fail_if_success refine stp ?_); with_reducible go_step)
 refine region_F ?_; refine pa (fun w1 B1 hB kb1' hb2 => ?_); have gb1 := HB.out.gB hB; have eb1 := eB hB; clear hB; replace HB := be HB hb2; clear hb2; have kb1 := kb1'; clear kb1'; have qb1 := kb1.1; refine listF_abs (fun s3 z' => ?_); clear z' sl0; refine listF_nil ?_
 repeat ((fail_if_success refine stp ?_); with_reducible go_step)
 refine norm_F _ (res_none Tryz.results73) ?_; exact ⟨rfl, HB.out.toBelow⟩

set_option maxRecDepth 100000 in
set_option maxHeartbeats 8000000 in
theorem orun_Run (s : St4) (o0 : Ord) (N V n : Nat) (w : World) (hM : OM N [] w V s o0) (hO : OkI s) (hNw : N ≤ w.heap.size) (hn : n ≤ 5000) :
    Calls Tryz.prog 72 #[.pointer (some ⟨V, 0, none⟩), .int .i64 (n : Int), .func (.func 73) #[] #[]] w (fun e w' => e = .returned (.tuple #[]) ∧ (∃ o, OM N [] w' V (run4 n s) o) ∧ Below N w w') := by
 have hM0 := hM; have HO := hid hO; clear hM hO
 refine enter_F Tryz.func72 rfl Tryz.ntmps72 (by simp) ?_
 intro s0 hs; have sl0 : s0 0 = .pointer (some ⟨V, 0, none⟩) := hs 0 (by simp); have sl1 : s0 1 = .int .i64 (n : Int) := hs 1 (by simp); have sl2 : s0 2 = .func (.func 73) #[] #[] := hs 2 (by simp); clear hs; have HB := hid (OldB.refl [] w)
 repeat ((fail_if_success refine stp ?_); with_reducible go_step)
 refine wp_scope_straight ?_
 repeat ((fail_if_success refine stp ?_); with_reducible go_step)
 refine wp_label ?_
 repeat ((fail_if_success refine stp ?_); with_reducible go_step)
 refine region_F ?_; refine pl ?_; refine pl ?_; refine listF_abs (fun s1 z' => ?_); replace sl0 := gs 0 z' sl0; replace sl2 := gs 2 z' sl2; have sl7 := gu 7 z'; have sl8 := gu 8 z'; clear z' sl1; refine listF_nil ?_
 repeat ((fail_if_success refine stp ?_); with_reducible go_step)
 have hc0_0 := hid sl0; have hc0_2 := hid sl2; have hc0_7 := hid sl7; refine loop_F (n := 50) (fun kJ sJ wJ => ∃ (i : Nat) (cur : St4) (oc : Ord), kJ = n - i ∧ sJ 8 = .int .i64 (i : Int) ∧ sJ 0 = s1 0 ∧ sJ 2 = s1 2 ∧ sJ 7 = s1 7 ∧ i ≤ n ∧ Hid (cur = run4 i s) ∧ Hid (OkI cur) ∧ OM N [] wJ V cur oc ∧ Below N w wJ) ⟨0, s, o0, rfl, (by first | exact sl8 | (rw [sl8]; go_num) | (rw [sl8]; rfl)), rfl, rfl, rfl, Nat.zero_le _, hid rfl, HO, hM0, Below.refl _ _⟩ ?_; clear sl8 HB; rintro kJ s2 w3 ⟨i, cur, oc, rfl, sl8, e0, e2, e7, hil, HCu, HOk, hM, HBn⟩; replace sl0 := e0.trans sl0; clear e0; replace sl2 := e2.trans sl2; clear e2; replace sl7 := e7.trans sl7; clear e7; have HB := hid (OldB.refl [] w3); have HB := hid (OldB.refl [] w3)
 repeat ((fail_if_success refine stp ?_); with_reducible go_step)
 refine region_F ?_; refine pl ?_; refine listF_abs (fun s4 z' => ?_); replace sl0 := gs 0 z' sl0; replace sl2 := gs 2 z' sl2; replace sl7 := gs 7 z' sl7; replace sl8 := gs 8 z' sl8; have sl9 := gu 9 z'; clear z'; refine listF_nil ?_
 repeat ((fail_if_success refine stp ?_); with_reducible go_step)
 refine cond_E sl9 (by decide) ?_ ?_ <;> (clear sl9; intro h9 sl9)
 ·skip
  have hin : i < n := by simpa using h9
  repeat ((fail_if_success refine stp ?_); with_reducible go_step)
  refine region_F ?_; obtain ⟨hN9, hV9, c4, c5, c7, c8, c9, c10, c11⟩ := hM.cells
  iterate 6 refine pl ?_
  clear hN9 hV9 c4 c5 c7 c8 c9 c10 c11; refine listF_abs (fun s5 z' => ?_); replace sl0 := gs 0 z' sl0; replace sl2 := gs 2 z' sl2; replace sl7 := gs 7 z' sl7; replace sl8 := gs 8 z' sl8; have sl15 := gu 15 z'; clear z' sl9; refine listF_nil ?_
  repeat ((fail_if_success refine stp ?_); with_reducible go_step)
  refine cond_E sl15 (by decide) ?_ ?_ <;> (clear sl15; intro h15 sl15)
  ·skip
   have Hf := hid (run_fin HCu.out hil (by simpa using h15))
   repeat ((fail_if_success refine stp ?_); with_reducible go_step)
   clear hc0_0 hc0_2 hc0_7
   (try refine noGoto_n ?_)
   repeat ((fail_if_success refine stp ?_); with_reducible go_step)
   refine norm_F _ (res_none Tryz.results72) ?_; exact ⟨rfl, ⟨_, by rw [← Hf.out]; exact hM⟩, HBn⟩
  ·skip
   have Hw0 := hid (show cur.why = 0 by simpa using h15)
   repeat ((fail_if_success refine stp ?_); with_reducible go_step)
   replace HB := hid (OldB.refl [] w3); have hM1 := hM; have hw1 := HBn.size; obtain ⟨hN9, hV9, c4, c5, c7, c8, c9, c10, c11⟩ := hM.cells; refine regionR_F [] [] [11] [.q [], .q [], .q [], .q [], .q [], .q [], .q [], .q [], .q [], .q [], .q [], .a] [?v14_0, ?v14_1, ?v14_2, ?v14_3, ?v14_4, ?v14_5, ?v14_6, ?v14_7, ?v14_8, ?v14_9, ?v14_10, ?v14_11] [fun _ => [], fun _ => [], fun _ => [], fun _ => [], fun _ => [], fun _ => [], fun _ => [], fun _ => [], fun _ => [], fun _ => [], fun _ => [], ?c14_11] (by kernel_rfl) (by kernel_rfl) (by kernel_rfl) (by kernel_rfl) (by kernel_rfl) (by first | exact List.nodup_nil | exact List.nodup_singleton _ | (simp; done) | (simp; omega)) bc_nil ?walk14 ?dep14
   case walk14 =>
    iterate 11 refine rq ?_
    refine walkR_a (by rfl) (fun X hX wq hwq hsq => ?_) ?_
    · go_simp
      refine newB_mk ?_ ?_
      · rfl
      · rfl
    refine walkR_nil (fun X hX w6 hwz hcz => ?_); have ka11 := hcz 11 (by simp)
    simp only [updC_some, updC_none, Nat.reduceEqDiff, ↓reduceIte] at ka11
    have la11 := hX.lo 11 rfl; clear hX hcz
    generalize X 11 = J11 at *
    (try clear X)
    skip; have hb7 := hwz.unDrew; clear hwz; have gJ := HB.out.size; replace la11 : w3.heap.size ≤ J11 := la11; replace hM := OM.old hM hb7 (by simp); replace HBn := Below.trans HBn (hb7.lowN (Nat.le_trans hNw HBn.size) (by simp <;> omega)); replace HB := mo HB hb7; clear hb7
    have gb6 : w.heap.size ≤ J11 := by omega
    have kb6 := ka11; clear ka11; have qb6 := kb6.1; replace hM := OM.avoid2 hM1 HB.out la11; clear hM1; clear hN9 hV9 c4 c5 c7 c8 c9 c10 c11; obtain ⟨cb6_0, cb6_1, cb6_2, cb6_3, cb6_4, cb6_5, cb6_6⟩ := cl7 kb6; have zb6 := kb6.2.2; refine pl ?_; refine listF_absw (fun w8 hw' => ?_); have kb6' := cells_of hw' (Cells.set (i := 6) (Cells.set (i := 5) (Cells.set (i := 4) (Cells.set (i := 3) (Cells.set (i := 2) (Cells.set (i := 1) (Cells.set (i := 0) (kb6))))))))
    (try simp only [stC, mC, List.set_cons_zero, List.set_cons_succ] at kb6')
    have hb9 : OldB [J11] w6 w8 := oldsetN hw'; clear hw'; clear cb6_0 cb6_1 cb6_2 cb6_3 cb6_4 cb6_5 cb6_6 zb6; clear qb6; replace kb6 := kb6'; replace hM := OM.old hM hb9 (by simp); replace HBn := Below.trans HBn (hb9.lowN (Nat.le_trans hNw HBn.size) (by simp <;> omega)); replace HB := mo HB hb9; clear hb9; have qb6 := kb6.1; clear kb6'; refine listF_abs (fun s10 z' => ?_); replace sl0 := gs 0 z' sl0; replace sl2 := gs 2 z' sl2; have sl6 := gu 6 z'; replace sl7 := gs 7 z' sl7; replace sl8 := gs 8 z' sl8; clear z' sl15; refine listF_nil ?_
    repeat ((fail_if_success refine stp ?_); with_reducible go_step)
    refine region_F ?_; refine pl ?_; refine listF_step rfl (fun K' hK => ?_); unfold opF; go_simp; refine (ostep_any cur [J11] N V oc _ hM HOk.out Hw0.out (Nat.le_trans hNw HBn.size) (fun k hk => by rw [List.mem_singleton] at hk; omega)).mono ?_; rintro e w11 ⟨rfl, hM9, hb9, hk9⟩; have HBn2 := Below.trans HBn hb9; replace kb6 := kb6.same (hk9 _ (by simp)) hb9.size; clear hM HBn; have hM := hM9; have HBn := HBn2; replace HB := hid (OldB.refl [J11] w11); clear hM9 hb9 hk9 HBn2; refine ⟨_, rfl, hK _ _ ?_⟩; clear hK K'; clear qb6; have qb6 := kb6.1; refine listF_abs (fun s13 z' => ?_); replace sl0 := gs 0 z' sl0; replace sl2 := gs 2 z' sl2; replace sl6 := gs 6 z' sl6; replace sl7 := gs 7 z' sl7; replace sl8 := gs 8 z' sl8; clear z'; refine listF_nil ?_
    repeat ((fail_if_success refine stp ?_); with_reducible go_step)
    refine region_F ?_; obtain ⟨hN9, hV9, c4, c5, c7, c8, c9, c10, c11⟩ := hM.cells
    iterate 6 refine pl ?_
    clear hN9 hV9 c4 c5 c7 c8 c9 c10 c11; refine listF_abs (fun s14 z' => ?_); replace sl0 := gs 0 z' sl0; replace sl2 := gs 2 z' sl2; replace sl6 := gs 6 z' sl6; replace sl7 := gs 7 z' sl7; replace sl8 := gs 8 z' sl8; have sl34 := gu 34 z'; clear z'; refine listF_nil ?_
    repeat ((fail_if_success refine stp ?_); with_reducible go_step)
    refine cond_E sl34 (by decide) ?_ ?_ <;> (clear sl34; intro h34 sl34)
    ·skip
     repeat ((fail_if_success refine stp ?_); with_reducible go_step)
     obtain ⟨hN9, hV9, c4, c5, c7, c8, c9, c10, c11⟩ := hM.cells; have nVJ := OM.nv hM (k := J11) (by simp); obtain ⟨cb6_0, cb6_1, cb6_2, cb6_3, cb6_4, cb6_5, cb6_6⟩ := cl7 kb6; refine regionR_F [J11] [[.int .i64 cur.pc, .int .i64 0, .int .i64 0, .int .i64 0, .int .i64 0, .int .i64 cur.time, .int .i64 0]] [13] [.q [], .q [], .q [], .q [], .q [], .q [], .q [], .q [], .q [], .q [], .st 13] [?v15_0, ?v15_1, ?v15_2, ?v15_3, ?v15_4, ?v15_5, ?v15_6, ?v15_7, ?v15_8, ?v15_9, fun _ => undef] [fun _ => [], fun _ => [], fun _ => [], fun _ => [], fun _ => [], fun _ => [], fun _ => [], fun _ => [], fun _ => [], fun _ => [], ?c15_10] (by kernel_rfl) (by kernel_rfl) (by kernel_rfl) (by kernel_rfl) (by kernel_rfl) (by first | exact List.nodup_nil | exact List.nodup_singleton _ | (simp; done) | (simp; omega)) (bc_cons (by repeat (first | (with_reducible exact kb6) | (with_reducible refine Cells.drew ?_) | (with_reducible refine Cells.up ?_ _) | (with_reducible refine Cells.setFar ?_ (by omega)))) bc_nil) ?walk15 ?dep15
     case walk15 =>
      iterate 10 refine rq ?_
      refine walkR_st (by rfl) (fun X hX wq hwq hkq => ?_) ?_
      · rw [show X 13 = J11 from hX.at0 0 _ rfl] at hkq ⊢
        replace hkq : Cells wq J11 [.int .i64 cur.pc, .int .i64 0, .int .i64 0, .int .i64 0, .int .i64 0, .int .i64 cur.time, .int .i64 0] := hkq; have hks := hkq.1; have hkz := hkq.2.2; have hk0 := hkq.cell 0 rfl; have hk1 := hkq.cell 1 rfl; have hk2 := hkq.cell 2 rfl; have hk3 := hkq.cell 3 rfl; have hk4 := hkq.cell 4 rfl; have hk5 := hkq.cell 5 rfl; have hk6 := hkq.cell 6 rfl; go_simp
        (first | ((with_reducible refine writeB_mk (Cells.set (Cells.set (Cells.set (Cells.set hkq)))) ?_ ?_); (focus (repeat (first | (with_reducible exact Only.refl _ _) | (with_reducible refine Only.set ?_)))); rfl))
      refine walkR_nil (fun X hX w15 hwz hcz => ?_); have kz0 := hcz 13 (by simp); rw [show X 13 = J11 from hX.at0 0 _ rfl] at kz0
      simp only [updC_some, updC_none, Nat.reduceEqDiff, ↓reduceIte] at kz0
      clear hX hcz
      (try clear X)
      skip; have hb16 := hwz.unDrew; clear hwz
      (try simp only [stC, mC, List.set_cons_zero, List.set_cons_succ] at kz0)
      clear cb6_0 cb6_1 cb6_2 cb6_3 cb6_4 cb6_5 cb6_6; clear qb6; replace kb6 := kz0; replace hM := OM.old hM hb16 (by simp); replace HBn := Below.trans HBn (hb16.lowN (Nat.le_trans hNw HBn.size) (by simp <;> omega)); replace HB := mo HB hb16; clear hb16; have qb6 := kb6.1; clear kz0; clear hN9 hV9 c4 c5 c7 c8 c9 c10 c11; clear nVJ; refine pl ?_; obtain ⟨cb6_0, cb6_1, cb6_2, cb6_3, cb6_4, cb6_5, cb6_6⟩ := cl7 kb6; have zb6 := kb6.2.2; refine pl ?_; refine listF_absw (fun w17 hw' => ?_); have kb6' := cells_of hw' (Cells.set (i := 6) (kb6))
      (try simp only [stC, mC, List.set_cons_zero, List.set_cons_succ] at kb6')
      have hb18 : OldB [J11] w15 w17 := oldset hw'; clear hw'; clear cb6_0 cb6_1 cb6_2 cb6_3 cb6_4 cb6_5 cb6_6 zb6; clear qb6; replace kb6 := kb6'; replace hM := OM.old hM hb18 (by simp); replace HBn := Below.trans HBn (hb18.lowN (Nat.le_trans hNw HBn.size) (by simp <;> omega)); replace HB := mo HB hb18; clear hb18; have qb6 := kb6.1; clear kb6'; refine listF_abs (fun s19 z' => ?_); replace sl0 := gs 0 z' sl0; replace sl2 := gs 2 z' sl2; replace sl6 := gs 6 z' sl6; replace sl7 := gs 7 z' sl7; replace sl8 := gs 8 z' sl8; clear z' sl34; refine listF_nil ?_
      repeat ((fail_if_success refine stp ?_); with_reducible go_step)
      refine region_F ?_; refine pl ?_; obtain ⟨cb6_0, cb6_1, cb6_2, cb6_3, cb6_4, cb6_5, cb6_6⟩ := cl7 kb6; refine pl ?_; refine listF_step rfl (fun K' hK => ?_); unfold opF; go_simp; refine (orun1_any _ _ _ _ _ _ _ _).mono ?_; rintro e w20 ⟨rfl, hb21⟩; refine ⟨_, rfl, hK _ _ ?_⟩; clear hK K'; clear cb6_0 cb6_1 cb6_2 cb6_3 cb6_4 cb6_5 cb6_6; clear qb6; replace kb6 := kb6.at hb21; replace hM := OM.at hM hb21; replace HBn := Below.trans HBn (Below.mono hb21 (Nat.le_trans hNw HBn.size)); replace HB := be HB hb21; clear hb21; have qb6 := kb6.1; refine listF_abs (fun s22 z' => ?_); replace sl0 := gs 0 z' sl0; replace sl2 := gs 2 z' sl2; replace sl7 := gs 7 z' sl7; replace sl8 := gs 8 z' sl8; clear z' sl6; refine listF_nil ?_
      repeat ((fail_if_success refine stp ?_); with_reducible go_step)
      refine region_F ?_; refine pl ?_; refine pl ?_; refine listF_abs (fun s23 z' => ?_); replace sl0 := gs 0 z' sl0; replace sl2 := gs 2 z' sl2; replace sl7 := gs 7 z' sl7; replace sl8 := gu 8 z'; clear z'; refine listF_nil ?_
      repeat ((fail_if_success refine stp ?_); with_reducible go_step)
      refine ⟨_, _, rfl, ?_, i + 1, (step4 cur), (orderOf cur), rfl, (by first | (with_reducible exact sl8) | (rw [sl8]; (with_reducible go_num); done) | (rw [sl8, IntWalk.i64_in] <;> first | ((with_reducible go_num); done) | omega) | (rw [sl8]; go_num; done) | (rw [sl8]; simp; done) | (rw [sl8]; simp; omega)), (sl0.trans hc0_0.out.symm), (sl2.trans hc0_2.out.symm), (sl7.trans hc0_7.out.symm), by omega, hid (run_next (n := n) HCu.out Hw0.out), hid (step_ok4 HOk.out), (OM.less hM (by simp)), HBn⟩
      omega
     case dep15 =>
       iterate 11 refine dR ?_
       exact depR_nil
    ·skip
     repeat ((fail_if_success refine stp ?_); with_reducible go_step)
     refine region_F ?_; refine pl ?_; refine pl ?_; refine listF_abs (fun s24 z' => ?_); replace sl0 := gs 0 z' sl0; replace sl2 := gs 2 z' sl2; replace sl7 := gs 7 z' sl7; replace sl8 := gu 8 z'; clear z' sl6 sl34; refine listF_nil ?_
     repeat ((fail_if_success refine stp ?_); with_reducible go_step)
     refine ⟨_, _, rfl, ?_, i + 1, (step4 cur), (orderOf cur), rfl, (by first | (with_reducible exact sl8) | (rw [sl8]; (with_reducible go_num); done) | (rw [sl8, IntWalk.i64_in] <;> first | ((with_reducible go_num); done) | omega) | (rw [sl8]; go_num; done) | (rw [sl8]; simp; done) | (rw [sl8]; simp; omega)), (sl0.trans hc0_0.out.symm), (sl2.trans hc0_2.out.symm), (sl7.trans hc0_7.out.symm), by omega, hid (run_next (n := n) HCu.out Hw0.out), hid (step_ok4 HOk.out), (OM.less hM (by simp)), HBn⟩
     omega
   case dep14 =>
     iterate 11 refine dR ?_
     refine depR_cons (fun X X' h => ?_) ?_
     · (first | exact ⟨rfl, rfl⟩ | (have e11 := h 11 (by decide +kernel); constructor <;> (first | rfl | (simp only [e11]))))
     exact depR_nil
 ·skip
  have hin : i = n := by have h := h9; simp at h; omega
  subst hin; have Hf := hid HCu.out
  repeat ((fail_if_success refine stp ?_); with_reducible go_step)
  clear hc0_0 hc0_2 hc0_7
  (try refine noGoto_n ?_)
  repeat ((fail_if_success refine stp ?_); with_reducible go_step)
  refine norm_F _ (res_none Tryz.results72) ?_; exact ⟨rfl, ⟨_, by rw [← Hf.out]; exact hM⟩, HBn⟩
end

section
open Go.RowKit


def St4.zero : St4 := ⟨[], [], 0, [], 0, 0, 0, 0⟩
def SA.none : SA := ⟨Option.none, 0, Option.none, 0, Option.none, 0⟩
theorem RdSt.zero (w : World) : RdSt w St4.zero SA.none := ⟨.inl rfl, .inl rfl, .inl rfl⟩
/-- what Run answers -/
def runR (s : St4) (fs : List Flt) (most : Int) : St4 := if askErr12 s fs most = 0 then run12 s fs most.toNat else St4.zero
end

section
open Go.RowKit


theorem OldB.lowB {Bs : List Nat} {w0 w w' : World} {N : Nat} (h : OldB Bs w0 w) (hb : Below N w w') (hN : w0.heap.size ≤ N) : OldB Bs w0 w' :=
  ⟨hb.os.trans h.os, hb.tape.trans h.tape, hb.output.trans h.output, Nat.le_trans h.size hb.size, fun k hk hn => (hb.block k (by omega)).trans (h.block k hk hn)⟩
theorem Cells.lowB {w w' : World} {b N : Nat} {l : List Value} (h : Cells w b l) (hb : Below N w w') (hN : b < N) : Cells w' b l := h.kept (hb.block b hN) hb.size
/-- all that a state holds lies behind N -/
def SA.new (A : SA) (s : St4) (N : Nat) : Prop := ∀ k, k < N → A.free s k
/-- what Run of order answers -/
def runO (s : St4) (most : Int) : St4 := if openErr s most = 0 then run4 most.toNat s else St4.zero

set_option maxRecDepth 100000 in
set_option maxHeartbeats 8000000 in
theorem oRun_any (s : St4) (A : SA) (most : Int) (w : World) (hR : RdSt w s A) (hL : LenI s) :
    Calls Tryz.prog 31 #[.agg #[.slice A.sa s.store.length A.sc, .slice A.ta s.tape.length A.tc, .int .i64 s.taken, .slice A.pa s.printed.length A.pc, .int .i64 s.time, .int .i64 s.pc, .int .i64 s.done, .int .i64 s.why], .int .i64 most] w (fun e w' => ∃ A', e = .returned (.tuple #[.agg #[.slice A'.sa (runO s most).store.length A'.sc, .slice A'.ta (runO s most).tape.length A'.tc, .int .i64 (runO s most).taken, .slice A'.pa (runO s most).printed.length A'.pc, .int .i64 (runO s most).time, .int .i64 (runO s most).pc, .int .i64 (runO s most).done, .int .i64 (runO s most).why], .int .i64 (openErr s most)]) ∧ RdSt w' (runO s most) A' ∧ A'.new (runO s most) w.heap.size ∧ Below w.heap.size w w') := by
 have HR := hid hR; have HL := hid hL; clear hR hL
 refine enter_F Tryz.func31 rfl Tryz.ntmps31 (by simp) ?_
 intro s0 hs; have sl0 : s0 0 = .agg #[.slice A.sa s.store.length A.sc, .slice A.ta s.tape.length A.tc, .int .i64 s.taken, .slice A.pa s.printed.length A.pc, .int .i64 s.time, .int .i64 s.pc, .int .i64 s.done, .int .i64 s.why] := hs 0 (by simp); have sl1 : s0 1 = .int .i64 most := hs 1 (by simp); clear hs; have HB := hid (OldB.refl [] w)
 repeat ((fail_if_success refine stp ?_); with_reducible go_step)
 refine region_F ?_; refine pa (fun w1 B2 hB kb2' hb2 => ?_); have gb2 := HB.out.gB hB; have eb2 := eB hB; clear hB; replace HB := be HB hb2; clear hb2; have kb2 := kb2'; clear kb2'; have qb2 := kb2.1; refine pa (fun w3 B4 hB kb4' hb4 => ?_); have gb4 := HB.out.gB hB; have ob2_b4 := oB qb2 hB; have eb4 := eB hB; clear hB; clear qb2; replace kb2 := kb2.at hb4; replace HB := be HB hb4; clear hb4; have qb2 := kb2.1; have kb4 := kb4'; clear kb4'; have qb4 := kb4.1; refine pl ?_; refine listF_abs (fun s5 z' => ?_); replace sl1 := gs 1 z' sl1; have sl2 := gu 2 z'; have sl4 := gu 4 z'; clear z' sl0; refine listF_nil ?_
 repeat ((fail_if_success refine stp ?_); with_reducible go_step)
 by_cases he : openErr s most = 0
 ·skip
  obtain ⟨hok, hm1, hm2⟩ := open_zero.1 he; have HOk := hid hok; obtain ⟨n, rfl⟩ := Int.eq_ofNat_of_zero_le hm1; have Hm := hid (show 0 ≤ (n : Int) ∧ (n : Int) ≤ 5000 from ⟨hm1, hm2⟩)
  have hn5 : n ≤ 5000 := by omega
  have Hr := hid (show runO s n = run4 n s by unfold runO; rw [if_pos he]; rfl); have Hez := hid he; clear hok he; refine region_F ?_; obtain ⟨cb2_0, cb2_1, cb2_2, cb2_3, cb2_4, cb2_5, cb2_6, cb2_7⟩ := cl8 kb2; refine pl ?_; refine pl ?_; obtain ⟨NO, hNO⟩ : ∃ n, n = w3.heap.size := ⟨_, rfl⟩; have uNO := HB.out.gB hNO; have uNO_b2 := oB qb2 hNO; have uNO_b4 := oB qb4 hNO; refine listF_step rfl (fun K' hK => ?_); unfold opF; go_simp; refine (oopen_ok s A (n : Int) _ (HR.out.old HB.out) HOk.out Hm.out).mono ?_; rintro e w6 ⟨V, rfl, hM, hb7⟩; rw [← hNO] at hM
  have hNO2 : NO ≤ w6.heap.size := by have := hb7.size; omega
  clear hNO; refine ⟨_, rfl, hK _ _ ?_⟩; clear hK K'; clear cb2_0 cb2_1 cb2_2 cb2_3 cb2_4 cb2_5 cb2_6 cb2_7; clear qb2 qb4; replace kb2 := kb2.at hb7; replace kb4 := kb4.at hb7; replace HB := be HB hb7; clear hb7; have qb2 := kb2.1; have qb4 := kb4.1
  iterate 5 refine pl ?_
  refine listF_abs (fun s8 z' => ?_); replace sl1 := gs 1 z' sl1; replace sl4 := gs 4 z' sl4; have sl6 := gu 6 z'; have sl7 := gu 7 z'; clear z' sl2; refine listF_nil ?_
  repeat ((fail_if_success refine stp ?_); with_reducible go_step)
  refine region_F ?_; refine pl ?_; refine pl ?_; refine listF_abs (fun s9 z' => ?_); replace sl1 := gs 1 z' sl1; replace sl4 := gs 4 z' sl4; replace sl6 := gs 6 z' sl6; replace sl7 := gs 7 z' sl7; have sl15 := gu 15 z'; clear z'; refine listF_nil ?_
  repeat ((fail_if_success refine stp ?_); with_reducible go_step)
  refine cond_f ?_
  repeat ((fail_if_success refine stp ?_); with_reducible go_step)
  refine region_F ?_; refine pl ?_; refine pl ?_; refine listF_step rfl (fun K' hK => ?_); unfold opF; go_simp; refine (orun_Run s _ NO V n _ hM HOk.out hNO2 hn5).mono ?_; rintro e w10 ⟨rfl, ⟨o9, hM9⟩, hb11⟩; refine ⟨_, rfl, hK _ _ ?_⟩; clear hK K'; clear qb2 qb4; replace kb2 := kb2.lowB hb11 uNO_b2; replace kb4 := kb4.lowB hb11 uNO_b4; replace HB := hid (HB.out.lowB hb11 uNO); clear hb11; have qb2 := kb2.1; have qb4 := kb4.1; clear hM; refine listF_abs (fun s12 z' => ?_); replace sl4 := gs 4 z' sl4; replace sl6 := gs 6 z' sl6; clear z' sl1 sl7 sl15; refine listF_nil ?_
  repeat ((fail_if_success refine stp ?_); with_reducible go_step)
  refine region_F ?_
  iterate 3 refine pl ?_
  obtain ⟨G, sg, tt, ct, qp, cq, m1, m2, m3, m4, m5, m6, m7, m8, m9, m10, m11⟩ := hM9; clear m7 m8 m11; have kV := m4; clear m4; have qV := kV.1; have cV_0 := kV.cell 0 rfl; have cV_1 := kV.cell 1 rfl; have cV_2 := kV.cell 2 rfl; have cV_3 := kV.cell 3 rfl; have cV_4 := kV.cell 4 rfl; have cV_5 := kV.cell 5 rfl; have cV_6 := kV.cell 6 rfl; have cV_7 := kV.cell 7 rfl; have cV_8 := kV.cell 8 rfl; have cV_9 := kV.cell 9 rfl; have cV_10 := kV.cell 10 rfl; have cV_11 := kV.cell 11 rfl; refine pl ?_; obtain ⟨cb4_0, cb4_1, cb4_2, cb4_3, cb4_4, cb4_5, cb4_6, cb4_7⟩ := cl8 kb4; have zb4 := kb4.2.2; refine pl ?_; refine listF_absw (fun w13 hw' => ?_); have kb4' := cells_of hw' (Cells.set (i := 7) (Cells.set (i := 6) (Cells.set (i := 5) (Cells.set (i := 4) (Cells.set (i := 3) (Cells.set (i := 2) (Cells.set (i := 1) (Cells.set (i := 0) (kb4)))))))))
  (try simp only [stC, mC, List.set_cons_zero, List.set_cons_succ] at kb4')
  have hb14 : OldB [B4] w10 w13 := oldsetN hw'; clear hw'; clear cV_0 cV_1 cV_2 cV_3 cV_4 cV_5 cV_6 cV_7 cV_8 cV_9 cV_10 cV_11 cb4_0 cb4_1 cb4_2 cb4_3 cb4_4 cb4_5 cb4_6 cb4_7 zb4; clear qb2 qb4 qV; replace kb4 := kb4'; replace kb2 := kb2.oB hb14; replace kV := kV.oB hb14; replace m5 := Cells.oldB m5 hb14 (by simp; omega); replace m6 := Own.oldB m6 hb14 (fun g hg hm => by have := (World.ownsRow.lt m6 g hg).1; simp at hm; omega); replace m9 := Rd.oldN m9 hb14 (fun hl b hb hm => by have := (m10 hl b hb).1; simp at hm; omega); replace HB := mo HB hb14; clear hb14; have qb2 := kb2.1; have qb4 := kb4.1; have qV := kV.1; clear kb4'; refine pl ?_; refine listF_abs (fun s15 z' => ?_); replace sl4 := gs 4 z' sl4; have sl5 := gu 5 z'; clear z' sl6; refine listF_nil ?_
  repeat ((fail_if_success refine stp ?_); with_reducible go_step)
  obtain ⟨cb4_0, cb4_1, cb4_2, cb4_3, cb4_4, cb4_5, cb4_6, cb4_7⟩ := cl8 kb4; refine ret_F _ (res_ct Tryz.results31 ((getD_F (by decide)).trans sl4) (load_t24 cb4_0 cb4_1 cb4_2 cb4_3 cb4_4 cb4_5 cb4_6 cb4_7) ((getD_F (by decide)).trans sl5)) ?_; exact ⟨⟨some ⟨G, 0, none⟩, sg, tt, ct, qp, cq⟩, by rw [Hr.out, Hez.out], by rw [Hr.out]; exact ⟨Cells.rd (f := int1) (m := 1) (fun _ => rfl) m5, m9, Own.rd' (f := int1) (m := 1) (fun _ => rfl) m6 rfl⟩, by rw [Hr.out]; exact fun k hk => ⟨fun _ b hb => by cases hb; show G ≠ k; omega, fun hl b hb => by have := (m10 hl b hb).1; omega, fun hl b hb e => by have := (World.ownsRow.lt m6 k (by rw [show qp = some b from hb, ← e]; rfl)).1; omega⟩, HB.out.toBelow⟩
 ·skip
  have He := hid he
  have hne : (openErr s most != 0) = true := by simpa using he
  have Hr := hid (show runO s most = St4.zero by unfold runO; rw [if_neg he]); clear he; refine region_F ?_; obtain ⟨cb2_0, cb2_1, cb2_2, cb2_3, cb2_4, cb2_5, cb2_6, cb2_7⟩ := cl8 kb2; refine pl ?_; refine pl ?_; refine listF_step rfl (fun K' hK => ?_); unfold opF; go_simp; refine (oopen_bad s A most _ (HR.out.old HB.out) HL.out He.out).mono ?_; rintro e w16 ⟨rfl, hb17⟩; refine ⟨_, rfl, hK _ _ ?_⟩; clear hK K'; clear cb2_0 cb2_1 cb2_2 cb2_3 cb2_4 cb2_5 cb2_6 cb2_7; clear qb2 qb4; replace kb2 := kb2.at hb17; replace kb4 := kb4.at hb17; replace HB := be HB hb17; clear hb17; have qb2 := kb2.1; have qb4 := kb4.1
  iterate 5 refine pl ?_
  refine listF_abs (fun s18 z' => ?_); replace sl1 := gs 1 z' sl1; replace sl4 := gs 4 z' sl4; have sl6 := gu 6 z'; have sl7 := gu 7 z'; clear z' sl2; refine listF_nil ?_
  repeat ((fail_if_success refine stp ?_); with_reducible go_step)
  refine region_F ?_; refine pl ?_; refine pl ?_; refine listF_abs (fun s19 z' => ?_); replace sl1 := gs 1 z' sl1; replace sl4 := gs 4 z' sl4; replace sl6 := gs 6 z' sl6; replace sl7 := gs 7 z' sl7; have sl15 := gu 15 z'; clear z'; refine listF_nil ?_
  repeat ((fail_if_success refine stp ?_); with_reducible go_step)
  refine cond_t ?_
  repeat ((fail_if_success refine stp ?_); with_reducible go_step)
  refine region_F ?_; refine pl ?_; refine pl ?_; obtain ⟨cb4_0, cb4_1, cb4_2, cb4_3, cb4_4, cb4_5, cb4_6, cb4_7⟩ := cl8 kb4; have zb4 := kb4.2.2; refine pl ?_; refine listF_absw (fun w20 hw' => ?_); have kb4' := cells_of hw' (Cells.set (i := 7) (Cells.set (i := 6) (Cells.set (i := 5) (Cells.set (i := 4) (Cells.set (i := 3) (Cells.set (i := 2) (Cells.set (i := 1) (Cells.set (i := 0) (kb4)))))))))
  (try simp only [stC, mC, List.set_cons_zero, List.set_cons_succ] at kb4')
  have hb21 : OldB [B4] w16 w20 := oldsetN hw'; clear hw'; clear cb4_0 cb4_1 cb4_2 cb4_3 cb4_4 cb4_5 cb4_6 cb4_7 zb4; clear qb2 qb4; replace kb4 := kb4'; replace kb2 := kb2.oB hb21; replace HB := mo HB hb21; clear hb21; have qb2 := kb2.1; have qb4 := kb4.1; clear kb4'; refine pl ?_; refine listF_abs (fun s22 z' => ?_); replace sl4 := gs 4 z' sl4; have sl5 := gu 5 z'; clear z' sl1 sl6 sl7 sl15; refine listF_nil ?_
  repeat ((fail_if_success refine stp ?_); with_reducible go_step)
  obtain ⟨cb4_0, cb4_1, cb4_2, cb4_3, cb4_4, cb4_5, cb4_6, cb4_7⟩ := cl8 kb4; refine ret_F _ (res_ct Tryz.results31 ((getD_F (by decide)).trans sl4) (load_t24 cb4_0 cb4_1 cb4_2 cb4_3 cb4_4 cb4_5 cb4_6 cb4_7) ((getD_F (by decide)).trans sl5)) ?_; exact ⟨SA.none, by rw [Hr.out]; rfl, by rw [Hr.out]; exact RdSt.zero _, by rw [Hr.out]; exact fun k hk => ⟨fun h => absurd rfl h, fun h => absurd rfl h, fun h => absurd rfl h⟩, HB.out.toBelow⟩
end


end Go.Proofs.YtleknidlgmmgbaaGreat
