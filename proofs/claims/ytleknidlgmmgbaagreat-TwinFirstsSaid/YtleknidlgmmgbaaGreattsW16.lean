/- The program's order: run. -/
import Derived.Test.YtleknidlgmmgbaaGreattsW15
import Derived.Test.YtleknidlgmmgbaaGreattsCZ
set_option linter.all false
set_option maxRecDepth 100000
set_option maxHeartbeats 8000000
namespace Go.Proofs.YtleknidlgmmgbaaGreat

open Go.RowKit


theorem noGoto_n {Q : Exit → Act → World → Prop} {a : Act} {w : World} (h : Q .normal a w) : Exit.noGoto Q .normal a w := h
theorem noGoto_r {Q : Exit → Act → World → Prop} {a : Act} {w : World} (h : Q .ret a w) : Exit.noGoto Q .ret a w := h
theorem OM.nv {N : Nat} {av : List Nat} {w : World} {V : Nat} {s : St4} {o : Ord} (h : OM N av w V s o) {k : Nat} (hk : k ∈ av) : ¬ V = k := by
  obtain ⟨G, sc, ta, tc, pa, pc, h1, h2, h3, h4, h5, h6, h7, h8, h9, h10, h11⟩ := h
  exact fun e => (h11 k hk).1 e.symm
theorem OM.lt {N : Nat} {av : List Nat} {w : World} {V : Nat} {s : St4} {o : Ord} (h : OM N av w V s o) : V < w.heap.size := h.cells.2.1
theorem OM.avoid2 {N : Nat} {av : List Nat} {w w' : World} {V : Nat} {s : St4} {o : Ord} (h : OM N av w V s o) (ho : OldB [] w w') {k : Nat} (hk : w.heap.size ≤ k) : OM N (k :: av) w' V s o := (OM.avoid h hk).old ho (by simp)
theorem go_on {s : St4} (h : s.why = 0) : go4 s = step4 s := by unfold go4; rw [if_pos h]
theorem run_next {n i : Nat} {s cur : St4} (h : cur = run4 i s) (hw : cur.why = 0) : step4 cur = run4 (i + 1) s := by rw [run4_snoc, ← h, go_on hw]
theorem run_fin {n i : Nat} {s cur : St4} (h : cur = run4 i s) (hi : i ≤ n) (hw : cur.why ≠ 0) : cur = run4 n s := by
  rw [show n = i + (n - i) by omega, run4_add, ← h, run4_end hw]

theorem orun1_any (a b c d e f g : Int) (w : World) :
    Calls Tryz.prog 73 #[.agg #[.int .i64 a, .int .i64 b, .int .i64 c, .int .i64 d, .int .i64 e, .int .i64 f, .int .i64 g]] w (fun e w' => e = .returned (.tuple #[]) ∧ Below w.heap.size w w') := by
 refine enter_F Tryz.func73 rfl Tryz.ntmps73 (by simp) ?_
 intro s0 hs; have sl0 : s0 0 = .agg #[.int .i64 a, .int .i64 b, .int .i64 c, .int .i64 d, .int .i64 e, .int .i64 f, .int .i64 g] := hs 0 (by simp); clear hs; have HB := hid (OldB.refl [] w)
 refine nr ?_; intros; refine pa (fun _ B1 hB kb1 hb => ?_); have gb1 := HB.out.gB hB; have eb1 := eB hB; clear hB; replace HB := bE HB hb; clear hb; have qb1 := kb1.1; clear sl0; refine lx [] ?_; intro _; refine ln ?_; intros
 refine norm_F _ (res_none Tryz.results73) ?_; exact ⟨rfl, HB.out.toBelow⟩

theorem orun_Run (s : St4) (o0 : Ord) (N V n : Nat) (w : World) (hM : OM N [] w V s o0) (hO : OkI s) (hNw : N ≤ w.heap.size) (hn : n ≤ 5000) :
    Calls Tryz.prog 72 #[.pointer (some ⟨V, 0, none⟩), .int .i64 (n : Int), .func (.func 73) #[] #[]] w (fun e w' => e = .returned (.tuple #[]) ∧ (∃ o, OM N [] w' V (run4 n s) o) ∧ Below N w w') := by
 have hM0 := hM; have HO := hid hO; clear hM hO
 refine enter_F Tryz.func72 rfl Tryz.ntmps72 (by simp) ?_
 intro s0 hs; have sl0 : s0 0 = .pointer (some ⟨V, 0, none⟩) := hs 0 (by simp); have sl1 : s0 1 = .int .i64 (n : Int) := hs 1 (by simp); have sl2 : s0 2 = .func (.func 73) #[] #[] := hs 2 (by simp); clear hs; have HB := hid (OldB.refl [] w)
 refine zx ?_; intros
 refine wp_scope_straight ?_
 refine zx ?_; intros
 refine wp_label ?_
 refine nr ?_; intros; refine P2 ?_; clear sl1; refine lx [7,8] ?_; clear sl0 sl2; intro s1 sl0 sl2 sl7 sl8; refine ln ?_; intros
 have hc0_0 := hid sl0; have hc0_2 := hid sl2; have hc0_7 := hid sl7; refine loop_F (n := 50) (fun kJ sJ wJ => ∃ (i : Nat) (cur : St4) (oc : Ord), kJ = n - i ∧ sJ 8 = .int .i64 (i : Int) ∧ sJ 0 = s1 0 ∧ sJ 2 = s1 2 ∧ sJ 7 = s1 7 ∧ i ≤ n ∧ Hid (cur = run4 i s) ∧ Hid (OkI cur) ∧ OM N [] wJ V cur oc ∧ Below N w wJ) ⟨0, s, o0, rfl, (by first | exact sl8 | (rw [sl8]; go_num) | (rw [sl8]; rfl)), rfl, rfl, rfl, Nat.zero_le _, hid rfl, HO, hM0, Below.refl _ _⟩ ?_; clear sl8 HB; rintro kJ s2 w3 ⟨i, cur, oc, rfl, sl8, e0, e2, e7, hil, HCu, HOk, hM, HBn⟩; replace sl0 := e0.trans sl0; clear e0; replace sl2 := e2.trans sl2; clear e2; replace sl7 := e7.trans sl7; clear e7; have HB := hid (OldB.refl [] w3); have HB := hid (OldB.refl [] w3)
 refine nr ?_; intros; refine pl ?_; refine lx [9] ?_; clear sl0 sl2 sl7 sl8; intro _ sl0 sl2 sl7 sl8 sl9; refine ln ?_; intros
 refine cond_E sl9 (by decide) ?_ ?_ <;> (clear sl9; intro h9 sl9)
 ·skip
  have hin : i < n := by simpa using h9
  refine nr ?_; intros; obtain ⟨hN9, hV9, c4, c5, c7, c8, c9, c10, c11⟩ := hM.cells
  refine P6 ?_
  clear hN9 hV9 c4 c5 c7 c8 c9 c10 c11; clear sl9; refine lx [15] ?_; clear sl0 sl2 sl7 sl8; intro _ sl0 sl2 sl7 sl8 sl15; refine ln ?_; intros
  refine cond_E sl15 (by decide) ?_ ?_ <;> (clear sl15; intro h15 sl15)
  ·skip
   have Hf := hid (run_fin HCu.out hil (by simpa using h15))
   refine zx ?_; intros
   clear hc0_0 hc0_2 hc0_7
   (try refine noGoto_n ?_)
   refine zx ?_; intros
   refine norm_F _ (res_none Tryz.results72) ?_; exact ⟨rfl, ⟨_, by rw [← Hf.out]; exact hM⟩, HBn⟩
  ·skip
   have Hw0 := hid (show cur.why = 0 by simpa using h15)
   refine zx ?_; intros
   replace HB := hid (OldB.refl [] w3); have hM1 := hM; have hw1 := HBn.size; obtain ⟨hN9, hV9, c4, c5, c7, c8, c9, c10, c11⟩ := hM.cells; refine regionR_F [] [] [11] [.q [], .q [], .q [], .q [], .q [], .q [], .q [], .q [], .q [], .q [], .q [], .a] [?v14_0, ?v14_1, ?v14_2, ?v14_3, ?v14_4, ?v14_5, ?v14_6, ?v14_7, ?v14_8, ?v14_9, ?v14_10, ?v14_11] [fun _ => [], fun _ => [], fun _ => [], fun _ => [], fun _ => [], fun _ => [], fun _ => [], fun _ => [], fun _ => [], fun _ => [], fun _ => [], ?c14_11] (by kernel_rfl) (by kernel_rfl) (by kernel_rfl) (by kernel_rfl) (by kernel_rfl) (by first | exact List.nodup_nil | exact List.nodup_singleton _ | (simp; done) | (simp; omega)) bc_nil ?walk14 ?dep14
   case walk14 =>
    iterate 11 refine rq ?_
    refine walkR_a (by rfl) (fun X hX wq hwq hsq => ?_) ?_
    · go_simp
      refine newB_mk ?_ ?_
      · rfl
      · rfl
    refine walkR_nil (fun X hX w6 hwz hcz => ?_); have ka11 := hcz 11 (by simp)
    simp only [updC_some, updC_none, Nat.reduceEqDiff, ↓reduceIte] at ka11
    have la11 := hX.lo 11 rfl; clear hX hcz
    generalize X 11 = J11 at *
    (try clear X)
    skip; have hb := hwz.unDrew; clear hwz; have gJ := HB.out.size; replace la11 : w3.heap.size ≤ J11 := la11; replace hM := OM.old hM hb (by simp); replace HBn := Below.trans HBn (hb.lowN (Nat.le_trans hNw HBn.size) (by simp <;> omega)); replace HB := mO HB hb; clear hb
    have gb6 : w.heap.size ≤ J11 := by omega
    have kb6 := ka11; clear ka11; have qb6 := kb6.1; replace hM := OM.avoid2 hM1 HB.out la11; clear hM1; clear hN9 hV9 c4 c5 c7 c8 c9 c10 c11; have cb6 := clx kb6; have zb6 := kb6.2.2; refine pl ?_; refine sto kb6 ?_; clear kb6 cb6 zb6; intro _ kb6 hb; clear qb6; replace hM := OM.old hM hb (by simp); replace HBn := Below.trans HBn (hb.lowN (Nat.le_trans hNw HBn.size) (by simp <;> omega)); replace HB := mO HB hb; clear hb; have qb6 := kb6.1; clear sl15; refine lx [6] ?_; clear sl0 sl2 sl7 sl8; intro _ sl0 sl2 sl7 sl8 sl6; refine lr ?_; intros; refine pl ?_; refine cal (ostep_any cur [J11] N V oc _ hM HOk.out Hw0.out (Nat.le_trans hNw HBn.size) (fun k hk => by rw [List.mem_singleton] at hk; omega)) ?_; rintro e w11 ⟨rfl, hM9, hb, hk9⟩; have HBn2 := Below.trans HBn hb; replace kb6 := kb6.same (hk9 _ (by simp)) hb.size; clear hM HBn; have hM := hM9; have HBn := HBn2; replace HB := hid (OldB.refl [J11] w11); clear hM9 hb hk9 HBn2; refine ⟨_, rfl, ?_⟩; clear qb6; have qb6 := kb6.1; refine lx [] ?_; clear sl0 sl2 sl6 sl7 sl8; intro _ sl0 sl2 sl6 sl7 sl8; refine lr ?_; intros; obtain ⟨hN9, hV9, c4, c5, c7, c8, c9, c10, c11⟩ := hM.cells
    refine P6 ?_
    clear hN9 hV9 c4 c5 c7 c8 c9 c10 c11; refine lx [34] ?_; clear sl0 sl2 sl6 sl7 sl8; intro _ sl0 sl2 sl6 sl7 sl8 sl34; refine ln ?_; intros
    refine cond_E sl34 (by decide) ?_ ?_ <;> (clear sl34; intro h34 sl34)
    ·skip
     refine zx ?_; intros
     obtain ⟨hN9, hV9, c4, c5, c7, c8, c9, c10, c11⟩ := hM.cells; have nVJ := OM.nv hM (k := J11) (by simp); have cb6 := clx kb6; refine regionR_F [J11] [[.int .i64 cur.pc, .int .i64 0, .int .i64 0, .int .i64 0, .int .i64 0, .int .i64 cur.time, .int .i64 0]] [13] [.q [], .q [], .q [], .q [], .q [], .q [], .q [], .q [], .q [], .q [], .st 13] [?v15_0, ?v15_1, ?v15_2, ?v15_3, ?v15_4, ?v15_5, ?v15_6, ?v15_7, ?v15_8, ?v15_9, fun _ => undef] [fun _ => [], fun _ => [], fun _ => [], fun _ => [], fun _ => [], fun _ => [], fun _ => [], fun _ => [], fun _ => [], fun _ => [], ?c15_10] (by kernel_rfl) (by kernel_rfl) (by kernel_rfl) (by kernel_rfl) (by kernel_rfl) (by first | exact List.nodup_nil | exact List.nodup_singleton _ | (simp; done) | (simp; omega)) (bc_cons (by repeat (first | (with_reducible exact kb6) | (with_reducible refine Cells.drew ?_) | (with_reducible refine Cells.up ?_ _) | (with_reducible refine Cells.setFar ?_ (by omega)))) bc_nil) ?walk15 ?dep15
     case walk15 =>
      iterate 10 refine rq ?_
      refine walkR_st (by rfl) (fun X hX wq hwq hkq => ?_) ?_
      · rw [show X 13 = J11 from hX.at0 0 _ rfl] at hkq ⊢
        replace hkq : Cells wq J11 [.int .i64 cur.pc, .int .i64 0, .int .i64 0, .int .i64 0, .int .i64 0, .int .i64 cur.time, .int .i64 0] := hkq; have hks := hkq.1; have hkz := hkq.2.2; have hk0 := hkq.cell 0 rfl; have hk1 := hkq.cell 1 rfl; have hk2 := hkq.cell 2 rfl; have hk3 := hkq.cell 3 rfl; have hk4 := hkq.cell 4 rfl; have hk5 := hkq.cell 5 rfl; have hk6 := hkq.cell 6 rfl; go_simp
        (first | ((with_reducible refine writeB_mk (Cells.set (Cells.set (Cells.set (Cells.set hkq)))) ?_ ?_); (focus (repeat (first | (with_reducible exact Only.refl _ _) | (with_reducible refine Only.set ?_)))); rfl))
      refine walkR_nil (fun X hX w15 hwz hcz => ?_); have kz0 := hcz 13 (by simp); rw [show X 13 = J11 from hX.at0 0 _ rfl] at kz0
      simp only [updC_some, updC_none, Nat.reduceEqDiff, ↓reduceIte] at kz0
      clear hX hcz
      (try clear X)
      skip; have hb := hwz.unDrew; clear hwz
      (try simp only [stC, mC, List.set_cons_zero, List.set_cons_succ] at kz0)
      clear cb6; clear qb6; replace kb6 := kz0; replace hM := OM.old hM hb (by simp); replace HBn := Below.trans HBn (hb.lowN (Nat.le_trans hNw HBn.size) (by simp <;> omega)); replace HB := mO HB hb; clear hb; have qb6 := kb6.1; clear kz0; clear hN9 hV9 c4 c5 c7 c8 c9 c10 c11; clear nVJ; refine pl ?_; have cb6 := clx kb6; have zb6 := kb6.2.2; refine pl ?_; refine sto kb6 ?_; clear kb6 cb6 zb6; intro _ kb6 hb; clear qb6; replace hM := OM.old hM hb (by simp); replace HBn := Below.trans HBn (hb.lowN (Nat.le_trans hNw HBn.size) (by simp <;> omega)); replace HB := mO HB hb; clear hb; have qb6 := kb6.1; clear sl34; refine lx [] ?_; clear sl0 sl2 sl6 sl7 sl8; intro _ sl0 sl2 sl6 sl7 sl8; refine lr ?_; intros; refine pl ?_; have cb6 := clx kb6; refine pl ?_; refine cal (orun1_any _ _ _ _ _ _ _ _) ?_; rintro e _ ⟨rfl, hb⟩; refine ⟨_, rfl, ?_⟩; clear cb6; clear qb6; replace hM := OM.at hM hb; replace HBn := Below.trans HBn (Below.mono hb (Nat.le_trans hNw HBn.size)); revert HB; revert kb6; refine uA hb ?_; clear hb; intro kb6 qb6 HB; clear sl6; refine lx [] ?_; clear sl0 sl2 sl7 sl8; intro _ sl0 sl2 sl7 sl8; refine lr ?_; intros; refine P2 ?_; clear sl8; refine lx [8] ?_; clear sl0 sl2 sl7; intro _ sl0 sl2 sl7 sl8; refine ln ?_; intros
      refine ⟨_, _, rfl, ?_, i + 1, (step4 cur), (orderOf cur), rfl, (rL sl8), (sl0.trans hc0_0.out.symm), (sl2.trans hc0_2.out.symm), (sl7.trans hc0_7.out.symm), by omega, hid (run_next (n := n) HCu.out Hw0.out), hid (step_ok4 HOk.out), (OM.less hM (by simp)), HBn⟩
      omega
     case dep15 => exact dA
    ·skip
     refine nr ?_; intros; refine P2 ?_; clear sl8 sl6 sl34; refine lx [8] ?_; clear sl0 sl2 sl7; intro _ sl0 sl2 sl7 sl8; refine ln ?_; intros
     refine ⟨_, _, rfl, ?_, i + 1, (step4 cur), (orderOf cur), rfl, (rL sl8), (sl0.trans hc0_0.out.symm), (sl2.trans hc0_2.out.symm), (sl7.trans hc0_7.out.symm), by omega, hid (run_next (n := n) HCu.out Hw0.out), hid (step_ok4 HOk.out), (OM.less hM (by simp)), HBn⟩
     omega
   case dep14 =>
     iterate 11 refine dR ?_
     refine depR_cons (fun X X' h => ?_) ?_
     · (first | exact ⟨rfl, rfl⟩ | (have e11 := h 11 (by decide +kernel); constructor <;> (first | rfl | (simp only [e11]))))
     exact depR_nil
 ·skip
  have hin : i = n := by have h := h9; simp at h; omega
  subst hin; have Hf := hid HCu.out
  refine zx ?_; intros
  clear hc0_0 hc0_2 hc0_7
  (try refine noGoto_n ?_)
  refine zx ?_; intros
  refine norm_F _ (res_none Tryz.results72) ?_; exact ⟨rfl, ⟨_, by rw [← Hf.out]; exact hM⟩, HBn⟩

end Go.Proofs.YtleknidlgmmgbaaGreat
