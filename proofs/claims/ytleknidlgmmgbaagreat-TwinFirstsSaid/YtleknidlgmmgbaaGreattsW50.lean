/- The state of the examples. -/
import Derived.Test.YtleknidlgmmgbaaGreattsW4
import Derived.Test.YtleknidlgmmgbaaGreattsCZ
set_option linter.all false
set_option maxRecDepth 100000
set_option maxHeartbeats 16000000
namespace Go.Proofs.YtleknidlgmmgbaaGreat

section
open Go.RowKit


theorem hitS_snoc (fs : List Flt) (f : Flt) (n : Int) (st : List Int) : hitS (fs ++ [f]) n st = if f.done = n then (hitS fs n st).set f.addr.toNat (xorI ((hitS fs n st).getD f.addr.toNat 0) f.mask) else hitS fs n st := by
  unfold hitS; rw [List.filter_append, List.foldl_append]
  by_cases h : f.done = n
  · rw [if_pos h]; simp [h]
  · rw [if_neg h]; simp [h]
theorem hitS_in (n : Int) (st : List Int) (h0 : ∀ x ∈ st, 0 ≤ x ∧ x ≤ 16777215) : ∀ (fs : List Flt), FOk fs → ∀ x ∈ hitS fs n st, 0 ≤ x ∧ x ≤ 16777215 := by
  suffices h : ∀ (gs : List Flt), (∀ f ∈ gs, 1 ≤ f.mask ∧ f.mask ≤ 16777215) → ∀ st : List Int, (∀ x ∈ st, 0 ≤ x ∧ x ≤ 16777215) → ∀ x ∈ gs.foldl (fun st f => st.set f.addr.toNat (xorI (st.getD f.addr.toNat 0) f.mask)) st, 0 ≤ x ∧ x ≤ 16777215 by
    intro fs hf; exact h _ (fun f hm => (hf f ((List.mem_filter.1 hm).1)).2.2) st h0
  intro gs
  induction gs with
  | nil => intro _ st hs; exact hs
  | cons f gs ih =>
    intro hg st hs; refine ih (fun f hm => hg f (List.mem_cons_of_mem _ hm)) _ (set_in hs ?_); refine xorI_bd ?_ (by have := hg f (List.mem_cons_self ..); omega)
    rcases Nat.lt_or_ge f.addr.toNat st.length with h | h
    · exact hs _ (getD_in h)
    · rw [List.getD_eq_getElem?_getD, List.getElem?_eq_none h]; simp
theorem hitS_len (n : Int) : ∀ (fs : List Flt) (st : List Int), (hitS fs n st).length = st.length := by
  suffices h : ∀ (gs : List Flt) (st : List Int), (gs.foldl (fun st f => st.set f.addr.toNat (xorI (st.getD f.addr.toNat 0) f.mask)) st).length = st.length from fun fs st => h _ _
  intro gs
  induction gs with
  | nil => intro st; rfl
  | cons f gs ih => intro st; rw [List.foldl_cons, ih, List.length_set]
def hitU (fs : List Flt) (n : Int) (st : List Int) (i : Nat) : List Int := hitS (fs.take i) n st
theorem hitU_0 {fs : List Flt} {n : Int} {st : List Int} : hitU fs n st 0 = st := by unfold hitU hitS; simp
theorem hitU_all {fs : List Flt} {n : Int} {st : List Int} : hitU fs n st fs.length = hitS fs n st := by unfold hitU; rw [List.take_length]
theorem hitU_yes {fs : List Flt} {n : Int} {st : List Int} {i : Nat} (h : i < fs.length) {y : Flt} (hy : fs[i] = y) (hn : y.done = n) {q : Nat} (hq : y.addr = q) {z : Int} {L : List Int} (hL : L = hitU fs n st i) (hql : q < L.length) (hz : L[q] = z) : hitU fs n st (i + 1) = L.set q (xorI z y.mask) := by
  subst hy hL; unfold hitU at *; rw [List.take_succ_eq_append_getElem h, hitS_snoc, if_pos hn, hq, Int.toNat_natCast, getD_get hql, hz]
theorem hitU_no {fs : List Flt} {n : Int} {st : List Int} {i : Nat} (h : i < fs.length) {y : Flt} (hy : fs[i] = y) (hn : ¬ y.done = n) {L : List Int} (hL : L = hitU fs n st i) : hitU fs n st (i + 1) = L := by
  subst hy hL; unfold hitU; rw [List.take_succ_eq_append_getElem h, hitS_snoc, if_neg hn]
theorem hitU_in {fs : List Flt} {n : Int} {st : List Int} {i : Nat} (h0 : ∀ x ∈ st, 0 ≤ x ∧ x ≤ 16777215) (hf : FOk fs) : ∀ x ∈ hitU fs n st i, 0 ≤ x ∧ x ≤ 16777215 :=
  hitS_in n st h0 _ (fun f hm => hf f (List.mem_of_mem_take hm))

theorem XW50b {A : Prop} (e : A := by first | (with_reducible exact kg) | (apply Cells.conv; (focus (exact kg)); (first | rfl | (simp; done)))) : A := e
theorem rhit_v (st tp pr : List Int) (tk tm p dn wy m : Int) (bs os sc tc qc : Nat) (ta qa : Option Addr) (af : Option Addr) (cf : Nat) (fs : List Flt) (w : World) (hst : Hid (st.length = 128)) (hw0 : ∀ x ∈ st, 0 ≤ x ∧ x ≤ 16777215) (hfo : FOk fs) (hlf : fs.length ≤ 10) (hRs : RdInts w (some ⟨bs, os, none⟩) st) (hRt : RdInts w ta tp) (hRp : RdInts w qa pr) (hF : RdFl w af fs) :
    Calls Tryz.prog 86 #[.agg #[.slice (some ⟨bs, os, none⟩) st.length sc, .slice ta tp.length tc, .int .i64 tk, .slice qa pr.length qc, .int .i64 tm, .int .i64 p, .int .i64 dn, .int .i64 wy], .slice af fs.length cf, .int .i64 m] w (fun e w' => ∃ A : SA, e = .returned (.agg #[.slice A.sa (hit4 ⟨st, tp, tk, pr, tm, p, dn, wy⟩ fs m).store.length A.sc, .slice A.ta (hit4 ⟨st, tp, tk, pr, tm, p, dn, wy⟩ fs m).tape.length A.tc, .int .i64 (hit4 ⟨st, tp, tk, pr, tm, p, dn, wy⟩ fs m).taken, .slice A.pa (hit4 ⟨st, tp, tk, pr, tm, p, dn, wy⟩ fs m).printed.length A.pc, .int .i64 (hit4 ⟨st, tp, tk, pr, tm, p, dn, wy⟩ fs m).time, .int .i64 (hit4 ⟨st, tp, tk, pr, tm, p, dn, wy⟩ fs m).pc, .int .i64 (hit4 ⟨st, tp, tk, pr, tm, p, dn, wy⟩ fs m).done, .int .i64 (hit4 ⟨st, tp, tk, pr, tm, p, dn, wy⟩ fs m).why]) ∧ RdSt w' (hit4 ⟨st, tp, tk, pr, tm, p, dn, wy⟩ fs m) A ∧ Kept w.heap.size ⟨st, tp, tk, pr, tm, p, dn, wy⟩ ⟨some ⟨bs, os, none⟩, sc, ta, tc, qa, qc⟩ (hit4 ⟨st, tp, tk, pr, tm, p, dn, wy⟩ fs m) A ∧ Below w.heap.size w w') := by
 have Hw0 := hid hw0; have Hfo := hid hfo; have HRs := hid hRs; have HRt := hid hRt; have HRp := hid hRp; have HF := hid hF; clear hw0 hfo hRs hRt hRp hF; obtain ⟨i0, hi0, hz0, hy0, hx0⟩ := info_parts info_int
 have hst2 : st.length ≤ 128 := by rw [hst.out]; omega
 refine enter_F Tryz.func86 rfl Tryz.ntmps86 (by simp) ?_
 intro s0 hs; have sl0 : s0 0 = .agg #[.slice (some ⟨bs, os, none⟩) st.length sc, .slice ta tp.length tc, .int .i64 tk, .slice qa pr.length qc, .int .i64 tm, .int .i64 p, .int .i64 dn, .int .i64 wy] := hs 0 (by simp); have sl1 : s0 1 = .slice af fs.length cf := hs 1 (by simp); have sl2 : s0 2 = .int .i64 m := hs 2 (by simp); clear hs; have HB := hid (OldB.refl [] w)
 refine nr ?_; intros; refine pa (fun w1 B3 hB kb3 hb2 => ?_); have gb3 := HB.out.gB hB; have eb3 := eB hB; clear hB; replace HB := bE HB hb2; clear hb2; have qb3 := kb3.1; refine pa (fun w3 B6 hB kb6 hb4 => ?_); have gb6 := HB.out.gB hB; have ob3_b6 := oB qb3 hB; have eb6 := eB hB; clear hB; clear qb3; revert HB; revert kb3; refine uA hb4 ?_; clear hb4; intro kb3 qb3 HB; have qb6 := kb6.1; clear sl0; refine lx [3,6] ?_; clear sl1 sl2; intro s5 sl1 sl2 sl3 sl6; refine lr ?_; intros; obtain ⟨N8, hN8⟩ : ∃ n, n = w3.heap.size := ⟨_, rfl⟩; have gN8 := HB.out.gB hN8; have b3N8 := oB qb3 hN8; have b6N8 := oB qb6 hN8
 have hN8' : N8 ≤ w3.heap.size := by omega
 clear hN8; obtain ⟨B8, hB8⟩ : ∃ b, b = w3.heap.size := ⟨_, rfl⟩; refine listF_step rfl (fun K' hK => ?_); unfold opF; go_simp; refine hK _ _ ?_; clear hK K'; refine listF_absw ?_; intro w6 hw'
 have hO8 : Own int1 1 3 N8 w6 (Value.slice (some ⟨w3.heap.size, 0, none⟩) 0 0) ([] : List Int) := by rw [hw']; exact Own.lit (l := ([] : List Int)) (by omega) (by unfold maxLen; simp) rfl (fun _ => rfl)
 have hb7 : Below w3.heap.size w3 w6 := by rw [hw']; exact below_alloc1 _ _
 have hN80 : N8 ≤ w6.heap.size := by have := hb7.size; omega
 clear hw' hN8'; rw [← hB8] at hO8
 (try rw [← hB8])
 clear hB8; clear qb3 qb6; revert HB; revert kb6; revert kb3; refine uA hb7 ?_; clear hb7; intro kb3 qb3 kb6 qb6 HB; refine pl ?_; have cb3 := clx kb3; refine pl ?_; refine listF_step rfl (fun K' hK => ?_); have n0 := (World.ownsRow.lt hO8 B8 rfl).1
 have ab3 : (Value.slice (some ⟨B8, 0, none⟩) 0 0).ownBlock ≠ some B3 := fun e => by simp [Value.ownBlock] at e; omega
 have ab6 : (Value.slice (some ⟨B8, 0, none⟩) 0 0).ownBlock ≠ some B6 := fun e => by simp [Value.ownBlock] at e; omega
 refine opF_app (d := 11) rfl (by decide) (.tmp 8) (.tmp 10) _ rfl 3 i0 _ 8 Tryz.underlying22 hi0 hz0 hy0 hx0 rfl (by decide) (fun _ => rfl) int_one N8 _ [] st (some ⟨bs, os, none⟩) sc (by go_simp) (by go_simp) hO8 (Rd.oldB HRs.out HB.out (by simp)) (by unfold maxLen; simp; omega) (by simp; omega) (by omega) (fun v11 w8 hO' hG hV => hK _ _ ?_); clear hK K'; replace kb3 := kb3.grown hG ab3; clear ab3; replace kb6 := kb6.grown hG ab6; clear ab6; replace HB := hid (HB.out.grown hG (fun k hk => .inl (by simp [Value.ownBlock] at hk; omega))); replace hN80 := Nat.le_trans hN80 hG.size; rw [List.nil_append] at hO'; obtain ⟨g, c11, rfl, hg1, hg2⟩ := (Own.form hO').resolve_left (fun h => by have h9 := hst.out; rw [h.2] at h9; simp at h9); have kg0 := Own.toCells hO'; clear hO8 hO' hG hV n0 hg2; clear cb3; clear qb3 qb6; have qb3 := kb3.1; have qb6 := kb6.1; have kg := kg0; clear kg0; have qg := kg.1
 refine pl ?_; have cb3 := clx kb3; have zb3 := kb3.2.2; refine pl ?_; refine sto kb3 ?_; clear kb3 cb3 zb3; intro w10 kb3 hb11; clear qb3 qb6 qg; revert HB; revert kg; revert kb6; refine uO hb11 ?_; clear hb11; intro kb6 qb6 kg qg HB; have qb3 := kb3.1; refine lx [] ?_; clear sl1 sl2 sl3 sl6; intro s12 sl1 sl2 sl3 sl6; refine lr ?_; intros; refine pl ?_; refine lx [7] ?_; clear sl1 sl2 sl3 sl6; intro s13 sl1 sl2 sl3 sl6 sl7; refine ln ?_; intros
 have hc0_1 := hid sl1; have hc0_2 := hid sl2; have hc0_3 := hid sl3; have hc0_6 := hid sl6; refine loop_F (n := 50) (fun kJ sJ wJ => ∃ (i : Nat) (L : List Int), kJ = fs.length - i ∧ sJ 7 = .int .i64 (i : Int) ∧ sJ 1 = s13 1 ∧ sJ 2 = s13 2 ∧ sJ 3 = s13 3 ∧ sJ 6 = s13 6 ∧ OldB [g] w10 wJ ∧ Cells wJ g (L.flatMap int1) ∧ i ≤ fs.length ∧ Hid (L = hitU fs m st i) ∧ Hid (L.length = st.length)) ⟨0, st, rfl, (by first | exact sl7 | (rw [sl7]; go_num) | (rw [sl7]; rfl)), rfl, rfl, rfl, rfl, OldB.refl _ _, XW50b, Nat.zero_le _, hid hitU_0.symm, hid rfl⟩ ?_; clear sl7; rintro kJ s14 w15 ⟨i, L, rfl, sl7, e1, e2, e3, e6, hb16, mg', hil, HLL, hlL⟩; replace sl1 := e1.trans sl1; clear e1; replace sl2 := e2.trans sl2; clear e2; replace sl3 := e3.trans sl3; clear e3; replace sl6 := e6.trans sl6; clear e6; have hoJ := hb16; clear qb3 qb6 qg
 replace kg := mg'; revert HB; revert kb6; revert kb3; refine uO hb16 ?_; clear hb16; intro kb3 qb3 kb6 qb6 HB; have qg := kg.1; clear mg'; have HoJ := hid hoJ; clear hoJ; have HL17 := HoJ; clear HoJ
 refine nr ?_; intros
 refine P4 ?_
 refine lx [16] ?_; clear sl1 sl2 sl3 sl6 sl7; intro s18 sl1 sl2 sl3 sl6 sl7 sl16; refine ln ?_; intros
 refine cond_E sl16 (by decide) ?_ ?_ <;> (clear sl16; intro h16 sl16)
 ·skip
  have hi : i < fs.length := by simpa using h16
  have hii : (i : Int) < fs.length := by omega
  obtain ⟨b, off, hae, hbs, c0, c1, c2⟩ := RdFl.ne (Rd.oldB HF.out HB.out (by simp)) hi; subst hae; obtain ⟨y, hy⟩ : ∃ y, fs[i] = y := ⟨_, rfl⟩; rw [hy] at c0 c1 c2; obtain ⟨-, hyq, hmb'⟩ := Hfo.out y (by rw [← hy]; exact List.getElem_mem hi)
  have hmb : 0 ≤ y.mask ∧ y.mask ≤ 16777215 := by omega
  obtain ⟨q, hq⟩ := Int.eq_ofNat_of_zero_le hyq.1; rw [hq] at c1
  have hqL : q < L.length := by rw [hlL.out, hst.out]; omega
  have hqs : (q : Int) < st.length := by rw [hst.out]; omega
  have hqs2 : q < st.length := by rw [hst.out]; omega
  have Hq := hid hq; have Hy := hid hy; clear hq hy hyq hmb'
  refine nr ?_; intros
  refine P7 ?_
  clear sl16; refine lx [25] ?_; clear sl1 sl2 sl3 sl6 sl7; intro s19 sl1 sl2 sl3 sl6 sl7 sl25; refine ln ?_; intros
  refine cond_E sl25 (by decide) ?_ ?_ <;> (clear sl25; intro h25 sl25)
  ·skip
   have g25 : y.done = m := by simpa using h25
   obtain ⟨z, hz⟩ : ∃ z, L[q] = z := ⟨_, rfl⟩
   have hzb : 0 ≤ z ∧ z ≤ 16777215 := by rw [← hz]; exact hitU_in Hw0.out Hfo.out _ (by rw [← HLL.out]; exact List.getElem_mem hqL)
   have Hn := hid (hitU_yes hi Hy.out g25 Hq.out HLL.out hqL hz); have Hz := hid hz; clear hz g25 h25
   refine zx ?_; intros
   have cgz := ints_cell kg hqL; rw [Hz.out] at cgz; have cb3 := clx kb3; obtain ⟨cb6_0, cb6_1, cb6_2, cb6_3, cb6_4, cb6_5, cb6_6, cb6_7⟩ := cl8 kb6; refine rgQ 22 [?_,?_,?_,?_,?_,?_,?_,?_,?_,?_,?_,?_,?_,?_,?_,?_,?_,?_,?_,?_,?_,?_] ?walk7 ?dep7
   case walk7 =>
    iterate 21 refine rq ?_
    refine walkR_q (by rfl) (fun X hX wq hwq hrq => ?_) ?_
    · obtain ⟨hcq, hfq⟩ := hwq.b0
      clear hrq; go_simp
      (with_reducible exact (rturned_any z y.mask _ hzb hmb))
    refine walkR_nil (fun X hX w20 hwz hcz => ?_); clear hX hcz
    (try clear X)
    skip; have hb21 := hwz.unDrew; clear hwz; clear cb3 cb6_0 cb6_1 cb6_2 cb6_3 cb6_4 cb6_5 cb6_6 cb6_7; clear qb3 qb6 qg; revert HB; revert HL17; revert kg; revert kb6; revert kb3; refine uO hb21 ?_; clear hb21; intro kb3 qb3 kb6 qb6 kg qg HL17 HB; clear cgz; refine pl ?_; have zg := kg.2.2; have cgt := ints_cell kg hqL; refine pl ?_; refine listF_absw ?_; intro w22 hw'; have kg' := cells_of hw' (Cells.set (kg)); rw [ints_set] at kg'; clear cgt; have hb23 : OldB [g] w20 w22 := oldset hw'; clear hw'; clear zg; clear qb3 qb6 qg; replace kg := kg'; revert HB; revert HL17; revert kb6; revert kb3; refine uO hb23 ?_; clear hb23; intro kb3 qb3 kb6 qb6 HL17 HB; have qg := kg.1; clear kg'; clear sl25; refine lx [] ?_; clear sl1 sl2 sl3 sl6 sl7; intro s24 sl1 sl2 sl3 sl6 sl7; refine lr ?_; intros
    refine P3 ?_
    clear sl7; refine lx [7] ?_; clear sl1 sl2 sl3 sl6; intro s25 sl1 sl2 sl3 sl6 sl7; refine ln ?_; intros
    refine ⟨_, _, rfl, ?_, i + 1, (L.set q (xorI z y.mask)), rfl, (rL sl7), (sl1.trans hc0_1.out.symm), (sl2.trans hc0_2.out.symm), (sl3.trans hc0_3.out.symm), (sl6.trans hc0_6.out.symm), HL17.out, XW50b, by omega, hid Hn.out.symm, hid (by rw [List.length_set]; exact hlL.out)⟩
    omega
   case dep7 => exact dA
  ·skip
   have Hn := hid (hitU_no hi Hy.out (by simpa using h25) HLL.out); clear h25
   refine nr ?_; intros
   refine P3 ?_
   clear sl7 sl25; refine lx [7] ?_; clear sl1 sl2 sl3 sl6; intro s26 sl1 sl2 sl3 sl6 sl7; refine ln ?_; intros
   refine ⟨_, _, rfl, ?_, i + 1, L, rfl, (rL sl7), (sl1.trans hc0_1.out.symm), (sl2.trans hc0_2.out.symm), (sl3.trans hc0_3.out.symm), (sl6.trans hc0_6.out.symm), HL17.out, XW50b, by omega, hid Hn.out.symm, hlL⟩
   omega
 ·skip
  have hi : i = fs.length := by have h := h16; simp at h; omega
  refine zx ?_; intros
  clear HL17; clear hc0_1 hc0_2 hc0_3 hc0_6; refine region_F ?_; have cb3 := clx kb3; refine pl ?_; obtain ⟨cb6_0, cb6_1, cb6_2, cb6_3, cb6_4, cb6_5, cb6_6, cb6_7⟩ := cl8 kb6; have zb6 := kb6.2.2; refine pl ?_; refine sto kb6 ?_; clear kb6 cb3 cb6_0 cb6_1 cb6_2 cb6_3 cb6_4 cb6_5 cb6_6 cb6_7 zb6; intro w27 kb6 hb28; clear qb3 qb6 qg; revert HB; revert kg; revert kb3; refine uO hb28 ?_; clear hb28; intro kb3 qb3 kg qg HB; have qb6 := kb6.1; clear sl1 sl2 sl3 sl7 sl16; refine lx [] ?_; clear sl6; intro s29 sl6; refine ln ?_; intros
  obtain ⟨cb6_0, cb6_1, cb6_2, cb6_3, cb6_4, cb6_5, cb6_6, cb6_7⟩ := cl8 kb6; refine ret_F _ (res_c Tryz.results86 ((getD_F (by decide)).trans sl6) (load_t24 cb6_0 cb6_1 cb6_2 cb6_3 cb6_4 cb6_5 cb6_6 cb6_7)) ?_
  have eS : hit4 ⟨st, tp, tk, pr, tm, p, dn, wy⟩ fs m = ⟨L, tp, tk, pr, tm, p, dn, wy⟩ := by unfold hit4; rw [HLL.out, hi, hitU_all]
  exact ⟨⟨some ⟨g, 0, none⟩, c11, ta, tc, qa, qc⟩, by rw [eS]; simp only [hlL.out], by rw [eS]; exact ⟨Cells.rd (f := int1) (m := 1) (fun _ => rfl) kg, Rd.oldB HRt.out HB.out (by simp), Rd.oldB HRp.out HB.out (by simp)⟩, by rw [eS]; exact fun k hk h => ⟨fun _ b hb => by cases hb; show g ≠ k; omega, h.2.1, h.2.2⟩, HB.out.toBelow⟩


theorem rhit_any (s : St4) (A : SA) (m : Int) (af : Option Addr) (cf : Nat) (fs : List Flt) (w : World) (hR : RdSt w s A) (hO : OkI s) (hfo : FOk fs) (hlf : fs.length ≤ 10) (hF : RdFl w af fs) :
    Calls Tryz.prog 86 #[.agg #[.slice A.sa s.store.length A.sc, .slice A.ta s.tape.length A.tc, .int .i64 s.taken, .slice A.pa s.printed.length A.pc, .int .i64 s.time, .int .i64 s.pc, .int .i64 s.done, .int .i64 s.why], .slice af fs.length cf, .int .i64 m] w (fun e w' => ∃ A' : SA, e = .returned (.agg #[.slice A'.sa (hit4 s fs m).store.length A'.sc, .slice A'.ta (hit4 s fs m).tape.length A'.tc, .int .i64 (hit4 s fs m).taken, .slice A'.pa (hit4 s fs m).printed.length A'.pc, .int .i64 (hit4 s fs m).time, .int .i64 (hit4 s fs m).pc, .int .i64 (hit4 s fs m).done, .int .i64 (hit4 s fs m).why]) ∧ RdSt w' (hit4 s fs m) A' ∧ Kept w.heap.size s A (hit4 s fs m) A' ∧ Below w.heap.size w w') := by
  obtain ⟨sa, sc, ta, tc, pa, pc⟩ := A; have hl := hO.l0; obtain ⟨bs, os, hsa, -, -⟩ := RdInts.ne hR.st (k := 0) (by omega)
  simp only at hsa
  subst hsa; exact rhit_v s.store s.tape s.printed s.taken s.time s.pc s.done s.why m bs os sc tc pc ta pa af cf fs w (hid hl) hO.w0 hfo hlf hR.st hR.tp hR.pr hF
end

section
open Go.RowKit


theorem RdSt.oldK {w w' : World} {s : St4} {A : SA} {k : Nat} (h : RdSt w s A) (hf : A.free s k) (ho : OldB [k] w w') : RdSt w' s A := by
  have go : ∀ {a : Option Addr} {l : List Int}, RdInts w a l → (l ≠ [] → ∀ b, a = some b → b.block ≠ k) → RdInts w' a l := by
    intro a l h1 h2
    by_cases e : l = []
    · exact .inl e
    · exact Rd.oldB h1 ho (fun b hb => by simp; exact h2 e b hb)
  exact ⟨go h.st hf.1, go h.tp hf.2.1, go h.pr hf.2.2⟩
theorem RdSt.freeB {w : World} {s : St4} {A : SA} {k : Nat} (h : RdSt w s A) (hk : w.heap.size ≤ k) : A.free s k := by
  have go : ∀ {a : Option Addr} {l : List Int}, RdInts w a l → l ≠ [] → ∀ b, a = some b → b.block ≠ k := by
    intro a l h1 h2 b hb
    rcases h1 with h1 | ⟨b', off, ha, hlt, _⟩
    · exact absurd h1 h2
    · rw [ha] at hb; cases hb; show b' ≠ k; omega
  exact ⟨go h.st, go h.tp, go h.pr⟩
theorem after_fin {fs : List Flt} {b n j : Nat} {s cur : St4} (h : cur = after12 fs b j s) (hj : b + j ≤ n) (hn : ¬ (b + j < n ∧ cur.why = 0)) : cur = after12 fs b (n - b) s := by
  rw [show n - b = j + (n - b - j) by omega, after_add, ← h]
  by_cases g : b + j < n
  · rw [after_end (fun e => hn ⟨g, e⟩)]
  · rw [show n - b - j = 0 by omega]; rfl
theorem after_nx {fs : List Flt} {b j : Nat} {s cur : St4} (h : cur = after12 fs b j s) (h0 : cur.why = 0) : step4 (hit4 cur fs ((b : Int) + j)) = after12 fs b (j + 1) s := by
  rw [after_snoc, ← h]; unfold do12; rw [if_pos h0, Int.natCast_add]

theorem rafter12_any (s : St4) (A : SA) (af : Option Addr) (cf : Nat) (fs : List Flt) (b n : Nat) (w : World) (hR : RdSt w s A) (hO : OkI s) (hfo : FOk fs) (hlf : fs.length ≤ 10) (hF : RdFl w af fs) (hbn : b ≤ n ∧ n ≤ 1000) :
    Calls Tryz.prog 50 #[.agg #[.slice A.sa s.store.length A.sc, .slice A.ta s.tape.length A.tc, .int .i64 s.taken, .slice A.pa s.printed.length A.pc, .int .i64 s.time, .int .i64 s.pc, .int .i64 s.done, .int .i64 s.why], .slice af fs.length cf, .int .i64 (b : Int), .int .i64 (n : Int)] w (fun e w' => ∃ A' : SA, e = .returned (.agg #[.slice A'.sa (after12 fs b (n - b) s).store.length A'.sc, .slice A'.ta (after12 fs b (n - b) s).tape.length A'.tc, .int .i64 (after12 fs b (n - b) s).taken, .slice A'.pa (after12 fs b (n - b) s).printed.length A'.pc, .int .i64 (after12 fs b (n - b) s).time, .int .i64 (after12 fs b (n - b) s).pc, .int .i64 (after12 fs b (n - b) s).done, .int .i64 (after12 fs b (n - b) s).why]) ∧ RdSt w' (after12 fs b (n - b) s) A' ∧ Kept w.heap.size s A (after12 fs b (n - b) s) A' ∧ Below w.heap.size w w') := by
 have HR := hid hR; have HO := hid hO; have Hfo := hid hfo; have HF := hid hF; clear hR hO hfo hF
 refine enter_F Tryz.func50 rfl Tryz.ntmps50 (by simp) ?_
 intro s0 hs; have sl0 : s0 0 = .agg #[.slice A.sa s.store.length A.sc, .slice A.ta s.tape.length A.tc, .int .i64 s.taken, .slice A.pa s.printed.length A.pc, .int .i64 s.time, .int .i64 s.pc, .int .i64 s.done, .int .i64 s.why] := hs 0 (by simp); have sl1 : s0 1 = .slice af fs.length cf := hs 1 (by simp); have sl2 : s0 2 = .int .i64 (b : Int) := hs 2 (by simp); have sl3 : s0 3 = .int .i64 (n : Int) := hs 3 (by simp); clear hs; have HB := hid (OldB.refl [] w)
 refine nr ?_; intros; refine pa (fun _ B4 hB kb4 hb => ?_); have gb4 := HB.out.gB hB; have eb4 := eB hB; clear hB; replace HB := bE HB hb; clear hb; have qb4 := kb4.1; refine pa (fun w3 B8 hB kb8 hb => ?_); have gb8 := HB.out.gB hB; have ob4_b8 := oB qb4 hB; have eb8 := eB hB; clear hB; clear qb4; revert HB; revert kb4; refine uA hb ?_; clear hb; intro kb4 qb4 HB; have qb8 := kb8.1; clear sl0; refine lx [4,8] ?_; clear sl1 sl2 sl3; intro _ sl1 sl2 sl3 sl4 sl8; refine lr ?_; intros; refine P2 ?_; clear sl2; refine lx [9] ?_; clear sl1 sl3 sl4 sl8; intro s6 sl1 sl3 sl4 sl8 sl9; refine ln ?_; intros
 have hc0_1 := hid sl1; have hc0_3 := hid sl3; have hc0_4 := hid sl4; have hc0_8 := hid sl8; refine loop_F (n := 27) (fun kJ sJ wJ => ∃ (j : Nat) (cur : St4) (C : SA), kJ = n - (b + j) ∧ sJ 9 = .int .i64 ((b : Int) + (j : Int)) ∧ sJ 1 = s6 1 ∧ sJ 3 = s6 3 ∧ sJ 4 = s6 4 ∧ sJ 8 = s6 8 ∧ OldB [B4] w3 wJ ∧ Cells wJ B4 (stC cur C) ∧ b + j ≤ n ∧ Hid (cur = after12 fs b j s) ∧ Hid (OkI cur) ∧ RdSt wJ cur C ∧ Hid (C.free cur B4) ∧ Hid (C.free cur B8) ∧ Hid (Kept w.heap.size s A cur C)) ⟨0, s, A, rfl, (by rw [sl9]; simp), rfl, rfl, rfl, rfl, OldB.refl _ _, (by first | (with_reducible exact kb4) | (apply Cells.conv; (focus (exact kb4)); (first | rfl | (simp; done)))), by omega, hid rfl, HO, (HR.out.old HB.out), hid (HR.out.freeB (by omega)), hid (HR.out.freeB (by omega)), hid (fun _ _ h => h)⟩ ?_; clear sl9; rintro kJ s7 w8 ⟨j, cur, C, rfl, sl9, e1, e3, e4, e8, hb, mb4', hbj, HCu, HOk, HRc, HFr, HFr8, HKp⟩; replace sl1 := e1.trans sl1; clear e1
 replace sl3 := e3.trans sl3; clear e3; replace sl4 := e4.trans sl4; clear e4; replace sl8 := e8.trans sl8; clear e8; have hoJ := hb; clear qb4 qb8; replace kb4 := mb4'; revert HB; revert kb8; refine uO hb ?_; clear hb; intro kb8 qb8 HB; have qb4 := kb4.1; clear mb4'; have HoJ := hid hoJ; clear hoJ; have HL10 := HoJ; clear HoJ
 refine zx ?_; intros
 have hj11_1 := hid sl1; have hj11_3 := hid sl3; have hj11_4 := hid sl4; have hj11_8 := hid sl8; have hj11_9 := hid sl9; refine cut_any (fun sJ wJ => sJ 18 = .bool (decide (b + j < n ∧ cur.why = 0)) ∧ sJ 1 = s7 1 ∧ sJ 3 = s7 3 ∧ sJ 4 = s7 4 ∧ sJ 8 = s7 8 ∧ sJ 9 = s7 9 ∧ OldB [] w8 wJ) ?_ ?_
 ·skip
  have HL12 := hid (OldB.refl [] w8); refine region_F ?_
  refine P4 ?_
  refine lx [14] ?_; clear sl1 sl3 sl4 sl8 sl9; intro _ sl1 sl3 sl4 sl8 sl9 sl14
  refine boolG sl14 (fun sl14' h14 => ?_) (fun sl14' h14 => ?_) <;> (clear sl14; have sl14 := sl14'; clear sl14')
  ·skip
   refine py ?_; have cb4 := clx kb4; refine py ?_; refine py ?_; refine pl ?_; clear sl14; refine lx [15,16,17,18] ?_; clear sl1 sl3 sl4 sl8 sl9; intro _ sl1 sl3 sl4 sl8 sl9 sl15 sl16 sl17 sl18; refine ln ?_; intros
   clear cb4; exact ⟨trv, _, rfl, (by rw [sl18]; have h := h14; simp at h; congr 1; rw [Bool.eq_iff_iff]; simp; omega), (sl1.trans hj11_1.out.symm), (sl3.trans hj11_3.out.symm), (sl4.trans hj11_4.out.symm), (sl8.trans hj11_8.out.symm), (sl9.trans hj11_9.out.symm), HL12.out⟩
  ·skip
   refine F3 ?_; refine pl ?_; clear sl14; refine lx [18] ?_; clear sl1 sl3 sl4 sl8 sl9; intro _ sl1 sl3 sl4 sl8 sl9 sl18; refine ln ?_; intros
   exact ⟨trv, _, rfl, (by rw [sl18]; have h := h14; simp at h; simp; omega), (sl1.trans hj11_1.out.symm), (sl3.trans hj11_3.out.symm), (sl4.trans hj11_4.out.symm), (sl8.trans hj11_8.out.symm), (sl9.trans hj11_9.out.symm), HL12.out⟩
 ·skip
  rintro s16 w17 ⟨sl18, e1, e3, e4, e8, e9, hb⟩; replace sl1 := e1.trans sl1; clear e1 hj11_1; replace sl3 := e3.trans sl3; clear e3 hj11_3; replace sl4 := e4.trans sl4; clear e4 hj11_4; replace sl8 := e8.trans sl8; clear e8 hj11_8; replace sl9 := e9.trans sl9; clear e9 hj11_9; clear qb4 qb8; replace HRc := (by first | exact RdSt.oldK HRc HFr.out hb | exact RdSt.oldK HRc HFr8.out hb | exact RdSt.old HRc hb); revert HB; revert HL10; revert kb8; revert kb4; refine uO hb ?_; clear hb; intro kb4 qb4 kb8 qb8 HL10 HB
  refine zx ?_; intros
  refine cond_E sl18 (by decide) ?_ ?_ <;> (clear sl18; intro h18 sl18)
  ·skip
   have h9 := h18
   simp only [decide_eq_true_eq] at h9
   have hjn := h9.1; have Hn := hid (after_nx HCu.out h9.2); clear h9 h18
   refine nr ?_; intros; have cb4 := clx kb4
   refine P3 ?_
   refine listF_step rfl (fun K' hK => ?_); unfold opF; go_simp; refine (rhit_any cur C ((b : Int) + (j : Int)) af cf fs _ HRc HOk.out Hfo.out hlf (Rd.oldB HF.out HB.out (by simp))).mono ?_; rintro e _ ⟨C1, rfl, HR1, hk1, hb⟩; have HF1 := hid (hk1 _ qb4 HFr.out); have HG1 := hid (hk1 _ qb8 HFr8.out); have HK1 := hid (show Kept w.heap.size s A (hit4 cur fs ((b : Int) + (j : Int))) C1 from fun k hk h => hk1 k (Nat.lt_of_lt_of_le hk HB.out.size) (HKp.out k hk h)); clear hk1; refine ⟨_, rfl, hK _ _ ?_⟩; clear hK K'; clear cb4; clear qb4 qb8; replace HRc := RdSt.at HRc hb; revert HB; revert HL10; revert kb8; revert kb4; refine uA hb ?_; clear hb; intro kb4 qb4 kb8 qb8 HL10 HB; clear HRc; refine listF_step rfl (fun K' hK => ?_); unfold opF; go_simp; refine (rstep_any (hit4 cur fs ((b : Int) + (j : Int))) C1 _ HR1 (hit_ok HOk.out Hfo.out _)).mono ?_; rintro e _ ⟨C2, rfl, HR2, hk2, hb⟩
   have HF2 := hid (hk2 _ qb4 HF1.out); have HG2 := hid (hk2 _ qb8 HG1.out); have HK2 := hid (show Kept w.heap.size s A (step4 (hit4 cur fs ((b : Int) + (j : Int)))) C2 from fun k hk h => hk2 k (Nat.lt_of_lt_of_le hk HB.out.size) (HK1.out k hk h)); clear hk2; refine ⟨_, rfl, hK _ _ ?_⟩; clear hK K'; clear qb4 qb8; replace HR1 := RdSt.at HR1 hb; revert HB; revert HL10; revert kb8; revert kb4; refine uA hb ?_; clear hb; intro kb4 qb4 kb8 qb8 HL10 HB; clear HR1; have cb4 := clx kb4; have zb4 := kb4.2.2; refine pl ?_; refine sto kb4 ?_; clear kb4 cb4 zb4; intro _ kb4 hb; clear qb4 qb8; replace HR2 := RdSt.oldK HR2 HF2.out hb; revert HB; revert HL10; revert kb8; refine uO hb ?_; clear hb; intro kb8 qb8 HL10 HB; have qb4 := kb4.1; clear sl18; refine lx [] ?_; clear sl1 sl3 sl4 sl8 sl9; intro _ sl1 sl3 sl4 sl8 sl9; refine lr ?_; intros
   refine P3 ?_
   clear sl9; refine lx [9] ?_; clear sl1 sl3 sl4 sl8; intro _ sl1 sl3 sl4 sl8 sl9; refine ln ?_; intros
   refine ⟨_, _, rfl, ?_, j + 1, (step4 (hit4 cur fs ((b : Int) + (j : Int)))), C2, rfl, (by rw [sl9, IntWalk.i64_in _ (by omega)]; first | rfl | (congr 1; omega) | (simp; omega)), (sl1.trans hc0_1.out.symm), (sl3.trans hc0_3.out.symm), (sl4.trans hc0_4.out.symm), (sl8.trans hc0_8.out.symm), HL10.out, (by first | (with_reducible exact kb4) | (apply Cells.conv; (focus (exact kb4)); (first | rfl | (simp; done)))), by omega, hid Hn.out, hid (step_ok4 (hit_ok HOk.out Hfo.out _)), HR2, HF2, HG2, HK2⟩
   omega
  ·skip
   have Hf := hid (after_fin HCu.out hbj (by simpa only [decide_eq_false_iff_not] using h18)); clear h18
   refine zx ?_; intros
   clear HL10; clear hc0_1 hc0_3 hc0_4 hc0_8; refine region_F ?_; have cb4 := clx kb4; refine pl ?_; obtain ⟨cb8_0, cb8_1, cb8_2, cb8_3, cb8_4, cb8_5, cb8_6, cb8_7⟩ := cl8 kb8; have zb8 := kb8.2.2; refine pl ?_; refine sto kb8 ?_; clear kb8 cb4 cb8_0 cb8_1 cb8_2 cb8_3 cb8_4 cb8_5 cb8_6 cb8_7 zb8; intro _ kb8 hb; clear qb4 qb8; replace HRc := (by first | exact RdSt.oldK HRc HFr.out hb | exact RdSt.oldK HRc HFr8.out hb | exact RdSt.old HRc hb); revert HB; revert kb4; refine uO hb ?_; clear hb; intro kb4 qb4 HB; have qb8 := kb8.1; clear sl1 sl3 sl4 sl9 sl18; refine lx [] ?_; clear sl8; intro _ sl8; refine ln ?_; intros
   obtain ⟨cb8_0, cb8_1, cb8_2, cb8_3, cb8_4, cb8_5, cb8_6, cb8_7⟩ := cl8 kb8; refine ret_F _ (res_c Tryz.results50 ((getD_F (by decide)).trans sl8) (load_t24 cb8_0 cb8_1 cb8_2 cb8_3 cb8_4 cb8_5 cb8_6 cb8_7)) ?_; exact ⟨C, by rw [← Hf.out], by rw [← Hf.out]; exact HRc, by rw [← Hf.out]; exact HKp.out, HB.out.toBelow⟩
end

section
open Go.RowKit


def exL : List Int := [12583560, 0, 0, 0, 0, 0, 0, 0, 10569226, 0, 4278016, 0, 14909453]
def exT : List Int := [3, 4, 16777215]
def exS : St4 := beginS exL exT 0

theorem lS_any (w : World) :
    Calls Tryz.prog 26 #[] w (fun e w' => ∃ A : SA, e = .returned (.agg #[.slice A.sa exS.store.length A.sc, .slice A.ta exS.tape.length A.tc, .int .i64 exS.taken, .slice A.pa exS.printed.length A.pc, .int .i64 exS.time, .int .i64 exS.pc, .int .i64 exS.done, .int .i64 exS.why]) ∧ RdSt w' exS A ∧ Below w.heap.size w w') := by
 refine enter_F Tryz.func26 rfl Tryz.ntmps26 (by simp) ?_
 intro _ hs; clear hs; have HB := hid (OldB.refl [] w)
 refine nr ?_; intros; refine pa (fun _ B0 hB kb0 hb => ?_); have gb0 := HB.out.gB hB; have eb0 := eB hB; clear hB; replace HB := bE HB hb; clear hb; have qb0 := kb0.1; refine lx [0] ?_; intro _ sl0; refine lr ?_; intros; refine listF_step rfl (fun K' hK => ?_); refine uponF.mono (fun v w4 h => ?_) (opV_make (k := 13) (d := 4) rfl (by decide) (by decide) rfl); obtain ⟨⟨B4, rfl, gB4, lB4, k4'⟩, hb⟩ := h; refine hK _ _ ?_; clear hK K'
 have ob0_b4 : B0 < B4 := by omega
 have gb4 : w.heap.size ≤ B4 := by have := HB.out.size; omega
 have k4'' : Cells w4 B4 [.int .i64 0, .int .i64 0, .int .i64 0, .int .i64 0, .int .i64 0, .int .i64 0, .int .i64 0, .int .i64 0, .int .i64 0, .int .i64 0, .int .i64 0, .int .i64 0, .int .i64 0] := k4'; clear k4' gB4 lB4; clear qb0; revert HB; revert kb0; refine uA hb ?_; clear hb; intro kb0 qb0 HB; have kb4 := k4''; clear k4''; have qb4 := kb4.1; refine pl ?_; refine lx [1] ?_; clear sl0; intro _ sl0 sl1; refine lr ?_; intros
 refine P5 ?_
 have cb4 := clx kb4; have zb4 := kb4.2.2; refine pl ?_; refine sto kb4 ?_; clear kb4 cb4 zb4; intro _ kb4 hb; clear qb0 qb4; revert HB; revert kb0; refine uO hb ?_; clear hb; intro kb0 qb0 HB; have qb4 := kb4.1; refine pl ?_; have cb4 := clx kb4; have zb4 := kb4.2.2; refine pl ?_; refine sto kb4 ?_; clear kb4 cb4 zb4; intro _ kb4 hb; clear qb0 qb4; revert HB; revert kb0; refine uO hb ?_; clear hb; intro kb0 qb0 HB; have qb4 := kb4.1; refine pl ?_; have cb4 := clx kb4; have zb4 := kb4.2.2; refine pl ?_; refine sto kb4 ?_; clear kb4 cb4 zb4; intro _ kb4 hb; clear qb0 qb4; revert HB; revert kb0; refine uO hb ?_; clear hb; intro kb0 qb0 HB; have qb4 := kb4.1; refine pl ?_; have cb4 := clx kb4; have zb4 := kb4.2.2; refine pl ?_; refine sto kb4 ?_; clear kb4 cb4 zb4; intro _ kb4 hb; clear qb0 qb4; revert HB; revert kb0; refine uO hb ?_; clear hb; intro kb0 qb0 HB; have qb4 := kb4.1; refine lx [] ?_; clear sl0 sl1; intro _ sl0 sl1; refine lr ?_; intros; refine pl ?_; refine pas (fun _ B15 hB kb15 hb => ?_); have gb15 := HB.out.gB hB; have ob0_b15 := oB qb0 hB; have ob4_b15 := oB qb4 hB; have eb15 := eB hB; clear hB; clear qb0 qb4; revert HB; revert kb4; revert kb0; refine uA hb ?_; clear hb; intro kb0 qb0 kb4 qb4 HB; have qb15 := kb15.1; refine cal (rbegin_ok (some ⟨B4, 0, none⟩) 13 exL B15 0 3 exT 0 _ (Cells.rd (f := int1) (m := 1) (l := exL) (fun _ => rfl) kb4) (Cells.rd (f := int1) (m := 1) (l := exT) (fun _ => rfl) kb15) (by decide) (by decide) (by decide) (by decide +kernel) (by decide +kernel) (by decide)) ?_; rintro e w18 ⟨A, rfl, hRS, hf0, hb⟩; have Hf0 := hid (hf0 B0 (by omega)); have Hf2 := hid (fun k (hk : w18.heap.size ≤ k) => RdSt.freeB (k := k) hRS hk); clear hf0; refine ⟨_, rfl, ?_⟩
 clear qb0 qb4 qb15; revert HB; revert kb15; revert kb4; revert kb0; refine uA hb ?_; clear hb; intro kb0 qb0 kb4 qb4 kb15 qb15 HB; have HL9 := hid (OldB.refl [] w18)
 refine P3 ?_
 refine pa (fun _ B2 hB kb2 hb => ?_); have gb2 := HB.out.gB hB; have lHL9_b2 := HL9.out.gB hB; have ob0_b2 := oB qb0 hB; have ob4_b2 := oB qb4 hB; have ob15_b2 := oB qb15 hB; have eb2 := eB hB; clear hB; clear qb0 qb4 qb15; replace hRS := RdSt.at hRS hb; revert HB; revert HL9; revert kb15; revert kb4; revert kb0; refine uA hb ?_; clear hb; intro kb0 qb0 kb4 qb4 kb15 qb15 HL9 HB; have qb2 := kb2.1; have cb2 := clx kb2; have zb2 := kb2.2.2; refine pl ?_; refine sto kb2 ?_; clear kb2 cb2 zb2; intro _ kb2 hb; clear qb0 qb4 qb15 qb2; replace hRS := RdSt.oldK hRS (by first | exact Hf0.out | exact Hf2.out _ (by omega)) hb; revert HB; revert HL9; revert kb15; revert kb4; revert kb0; refine uO hb ?_; clear hb; intro kb0 qb0 kb4 qb4 kb15 qb15 HL9 HB; have qb2 := kb2.1; refine pl ?_; clear sl1; refine lx [2] ?_; clear sl0; intro _ sl0 sl2; refine lr ?_; intros; have cb2 := clx kb2; refine pl ?_; obtain ⟨cb0_0, cb0_1, cb0_2, cb0_3, cb0_4, cb0_5, cb0_6, cb0_7⟩ := cl8 kb0; have zb0 := kb0.2.2; refine pl ?_; refine sto kb0 ?_; clear kb0 cb0_0 cb0_1 cb0_2 cb0_3 cb0_4 cb0_5 cb0_6 cb0_7 cb2 zb0; intro _ kb0 hb; clear qb0 qb4 qb15 qb2; replace kb4 := kb4.oB hb; replace kb15 := kb15.oB hb; replace kb2 := kb2.oB hb; replace hRS := RdSt.oldK hRS (by first | exact Hf0.out | exact Hf2.out _ (by omega)) hb; clear HL9; replace HB := mO HB hb; clear hb; have qb0 := kb0.1; have qb4 := kb4.1; have qb15 := kb15.1; have qb2 := kb2.1; clear sl2; refine lx [] ?_; clear sl0; intro _ sl0; refine ln ?_; intros
 obtain ⟨cb0_0, cb0_1, cb0_2, cb0_3, cb0_4, cb0_5, cb0_6, cb0_7⟩ := cl8 kb0; refine ret_F _ (res_c Tryz.results26 ((getD_F (by decide)).trans sl0) (load_t24 cb0_0 cb0_1 cb0_2 cb0_3 cb0_4 cb0_5 cb0_6 cb0_7)) ?_; exact ⟨A, rfl, hRS, HB.out.toBelow⟩
end


end Go.Proofs.YtleknidlgmmgbaaGreat
