/- The reference's machine: Step. -/
import Derived.Test.YtleknidlgmmgbaaGreattsW2
import Derived.Test.YtleknidlgmmgbaaGreattsCZ
set_option linter.all false
namespace Go.Proofs.YtleknidlgmmgbaaGreat

open Go.RowKit


/-- no part of a state lies in a block -/
def SA.free (A : SA) (s : St4) (k : Nat) : Prop := (s.store ≠ [] → ∀ b, A.sa = some b → b.block ≠ k) ∧ (s.tape ≠ [] → ∀ b, A.ta = some b → b.block ≠ k) ∧ (s.printed ≠ [] → ∀ b, A.pa = some b → b.block ≠ k)
/-- what is new of a state lies behind -/
def Kept (N : Nat) (s : St4) (A : SA) (s' : St4) (A' : SA) : Prop := ∀ k, k < N → A.free s k → A'.free s' k
theorem oldsetN {Bs : List Nat} {w0 w wX : World} (h : w = wX) (ho : OldB Bs w0 wX := by repeat (first | with_reducible exact OldB.refl _ _ | with_reducible refine OldB.set ?_ (by simp))) : OldB Bs w0 w := by rw [h]; exact ho
theorem info_int : (Tryz.prog.info? 3).map (fun i => (i.zero, i.size, i.bytes)) = some (some (.int .i64 0), 1, 8) := by kernel_rfl
theorem int_one (x : Int) : ∀ u ∈ int1 x, u.oneCell' = true := by intro u hu; simp [int1] at hu; subst hu; rfl
theorem ints_cell {w : World} {g : Nat} {l : List Int} (h : Cells w g (l.flatMap int1)) {i : Nat} (hi : i < l.length) : w.cell? ⟨g, i, none⟩ = some (.int .i64 l[i]) := by
  have := h.2.1 (i * 1 + 0) _ (flat_get int1 1 (fun _ => rfl) l i l[i] (List.getElem?_eq_getElem hi) 0 _ rfl)
  simpa using this
theorem ints_set (x : Int) : ∀ (l : List Int) (i : Nat), (l.flatMap int1).set i (.int .i64 x) = (l.set i x).flatMap int1
  | [], i => by simp
  | y :: l, 0 => by simp
  | y :: l, i + 1 => by
    have ih := ints_set x l i
    simp only [List.set_cons_succ, List.flatMap_cons, int1, List.cons_append, List.nil_append] at *
    rw [ih]
theorem rdec_v (v op nx : Int) (f t : Nat) (w : World) (hd : decodeO v = ⟨op, f, t, nx⟩) (hv : 0 ≤ v ∧ v ≤ 16777215) :
    Calls Tryz.prog 88 #[.int .i64 v] w (fun e w' => e = .returned (.agg #[.int .i64 op, .int .i64 (f : Int), .int .i64 (t : Int), .int .i64 nx]) ∧ Below w.heap.size w w') := by
  have := rdecode_any v w hv; rw [hd] at this; exact this
theorem rwhen_v (op fr tt nx t n u : Int) (neg : Bool) (w : World) (ht : 0 ≤ t ∧ t ≤ 1000000000) (ho : (0 ≤ op ∧ op ≤ 7) ∧ (0 ≤ fr ∧ fr ≤ 127) ∧ (0 ≤ tt ∧ tt ≤ 127) ∧ (0 ≤ nx ∧ nx ≤ 127)) (hn : nextO ⟨op, fr, tt, nx⟩ neg = n) (hu : untilO ⟨op, fr, tt, nx⟩ t neg = u) :
    Calls Tryz.prog 109 #[.agg #[.int .i64 op, .int .i64 fr, .int .i64 tt, .int .i64 nx], .int .i64 t, .bool neg] w (fun e w' => e = .returned (.tuple #[.int .i64 n, .int .i64 u]) ∧ Below w.heap.size w w') := by
  have := rwhen_any ⟨op, fr, tt, nx⟩ t neg w ht ho; rw [hn, hu] at this; exact this


theorem step_why {s : St4} {k : Int} (hw : whyOf s = k) (hk : k ≠ 0) {p tk : Nat} (hp : s.pc = p) (htk : s.taken = tk) : step4 s = ⟨s.store, s.tape, (tk : Int), s.printed, s.time, (p : Int), s.done, k⟩ := by
  unfold step4; rw [if_pos (by rw [hw]; exact hk), hw, ← hp, ← htk]

theorem XW3b {A : Prop} (e : A := by exact (fun g hg => by have n0 := (World.ownsRow.lt hO144 g hg).1; first | (simp; done) | (simp; omega))) : A := e
theorem XW3c {A B1 : Prop} (hX1 : B1) (e : B1 → A := by exact ret_F _ (res_c Tryz.results85 ((getD_F (by decide)).trans sl2) (load_t24 cb2_0 cb2_1 cb2_2 cb2_3 cb2_4 cb2_5 cb2_6 cb2_7))) : A := e hX1
theorem XW3d {A : Prop} (e : A := by exact ⟨⟨some ⟨bs, os, none⟩, sc, ta, tc, qa, qc⟩, by rw [HS.out], by rw [HS.out]; exact ⟨Rd.oldB HRs.out HB.out (by simp), Rd.oldB HRt.out HB.out (by simp), Rd.oldB HRp.out HB.out (by simp)⟩, by rw [HS.out]; exact fun _ _ h => h, HB.out.toBelow⟩) : A := e
set_option maxRecDepth 100000 in
set_option maxHeartbeats 16000000 in
theorem rstep_v (s : St4) (st tp pr : List Int) (tk p f t : Nat) (tm dn wy op nx v x y n u : Int) (bs os sc tc qc : Nat) (ta qa : Option Addr) (w : World) (hdv : decodeO v = ⟨op, f, t, nx⟩) (hv : 0 ≤ v ∧ v ≤ 16777215) (hxb : 0 ≤ x ∧ x ≤ 16777215) (hyb : 0 ≤ y ∧ y ≤ 16777215) (hst : Hid (st.length = 128)) (hp : p < 128) (hf : f < 128) (ht : t < 128) (htp : tp.length ≤ 200) (hpr : pr.length ≤ 200) (htk : tk ≤ tp.length) (hop : 0 ≤ op ∧ op ≤ 7) (hnx : 0 ≤ nx ∧ nx ≤ 127) (htm : 0 ≤ tm ∧ tm ≤ 1000000000) (hdn : 0 ≤ dn ∧ dn ≤ tm) (hun : tm < u ∧ u ≤ tm + 80) (hn : nextO ⟨op, f, t, nx⟩ (decide (signI x < 0)) = n) (hu : untilO ⟨op, f, t, nx⟩ tm (decide (signI x < 0)) = u) (hvp : st.getD p 0 = v) (hxf : st.getD f 0 = x) (hyt : st.getD t 0 = y) (hRs : RdInts w (some ⟨bs, os, none⟩) st) (hRt : RdInts w ta tp) (hRp : RdInts w qa pr) (h1 : op = 0 → step4 s = ⟨st, tp, (tk : Int), pr, tm, (p : Int), dn, 1⟩) (h2 : ¬ op = 0 → (op = 6 ∧ tk = tp.length) → step4 s = ⟨st, tp, (tk : Int), pr, tm, (p : Int), dn, 2⟩) (h3 : ¬ op = 0 → ¬ (op = 6 ∧ tk = tp.length) → (op = 7 ∧ pr.length = 200) → step4 s = ⟨st, tp, (tk : Int), pr, tm, (p : Int), dn, 3⟩) (h4 : ¬ op = 0 → ¬ (op = 6 ∧ tk = tp.length) → ¬ (op = 7 ∧ pr.length = 200) → 1000000000 < u → step4 s = ⟨st, tp, (tk : Int), pr, tm, (p : Int), dn, 4⟩) (h5 : ¬ op = 0 → ¬ (op = 6 ∧ tk = tp.length) → ¬ (op = 7 ∧ pr.length = 200) → ¬ 1000000000 < u → step4 s = ⟨storeO ⟨st, tp, (tk : Int), pr, tm, (p : Int), dn, wy⟩ ⟨op, f, t, nx⟩ x y, tp, if op = 6 then (tk : Int) + 1 else tk, if op = 7 then pr ++ [x] else pr, u, n, dn + 1, wy⟩) :
    Calls Tryz.prog 85 #[.agg #[.slice (some ⟨bs, os, none⟩) st.length sc, .slice ta tp.length tc, .int .i64 (tk : Int), .slice qa pr.length qc, .int .i64 tm, .int .i64 (p : Int), .int .i64 dn, .int .i64 wy]] w (fun e w' => ∃ A : SA, e = .returned (.agg #[.slice A.sa (step4 s).store.length A.sc, .slice A.ta (step4 s).tape.length A.tc, .int .i64 (step4 s).taken, .slice A.pa (step4 s).printed.length A.pc, .int .i64 (step4 s).time, .int .i64 (step4 s).pc, .int .i64 (step4 s).done, .int .i64 (step4 s).why]) ∧ RdSt w' (step4 s) A ∧ Kept w.heap.size ⟨st, tp, (tk : Int), pr, tm, (p : Int), dn, wy⟩ ⟨some ⟨bs, os, none⟩, sc, ta, tc, qa, qc⟩ (step4 s) A ∧ Below w.heap.size w w') := by
 have Hdv := hid hdv; have Hn := hid hn; have Hu := hid hu; have Hvp := hid hvp; have Hxf := hid hxf; have Hyt := hid hyt; have HRs := hid hRs; have HRt := hid hRt; have HRp := hid hRp; have H1 := hid h1; have H2 := hid h2; have H3 := hid h3; have H4 := hid h4; have H5 := hid h5; clear hdv hn hu hvp hxf hyt hRs hRt hRp h1 h2 h3 h4 h5; obtain ⟨i0, hi0, hz0, hy0, hx0⟩ := info_parts info_int; have wdn : IntKind.i64.wrap (dn + 1) = dn + 1 := IntWalk.i64_in _ (by omega)
 have lp : p < st.length := by rw [hst.out]; exact hp
 have lf : f < st.length := by rw [hst.out]; exact hf
 have lt : t < st.length := by rw [hst.out]; exact ht
 have hst2 : st.length ≤ 128 := by rw [hst.out]; omega
 have ip : (p : Int) < st.length := by omega
 have if' : (f : Int) < st.length := by omega
 have it : (t : Int) < st.length := by omega
 refine enter_F Tryz.func85 rfl Tryz.ntmps85 (by simp) ?_
 intro s0 hs; have sl0 : s0 0 = .agg #[.slice (some ⟨bs, os, none⟩) st.length sc, .slice ta tp.length tc, .int .i64 (tk : Int), .slice qa pr.length qc, .int .i64 tm, .int .i64 (p : Int), .int .i64 dn, .int .i64 wy] := hs 0 (by simp); clear hs; have HB := hid (OldB.refl [] w)
 refine nr ?_; intros; refine pa (fun w1 B1 hB kb1 hb2 => ?_); have gb1 := HB.out.gB hB; have eb1 := eB hB; clear hB; replace HB := bE HB hb2; clear hb2; have qb1 := kb1.1; refine pa (fun w3 B2 hB kb2 hb4 => ?_); have gb2 := HB.out.gB hB; have ob1_b2 := oB qb1 hB; have eb2 := eB hB; clear hB; clear qb1; revert HB; revert kb1; refine uA hb4 ?_; clear hb4; intro kb1 qb1 HB; have qb2 := kb2.1; clear sl0; refine lx [1,2] ?_; intro s5 sl1 sl2; refine lr ?_; intros; refine pl ?_; have cb1 := clx kb1
 refine P4 ?_
 have cp := rd_at1 (Rd.oldB HRs.out HB.out (by simp)) lp (y := v) (by rw [← getD_get lp 0]; exact Hvp.out)
 have hbs : bs < w3.heap.size := by obtain ⟨b', o', e', h', _⟩ := RdInts.ne (Rd.oldB HRs.out HB.out (by simp)) lp; cases e'; exact h'
 refine pl ?_; clear cp hbs; refine cal (rdec_v v op nx f t _ Hdv.out hv) ?_; rintro e w6 ⟨rfl, hb7⟩; refine ⟨_, rfl, ?_⟩; clear cb1; clear qb1 qb2; revert HB; revert kb2; revert kb1; refine uA hb7 ?_; clear hb7; intro kb1 qb1 kb2 qb2 HB; refine pa (fun w8 B3 hB kb3 hb9 => ?_); have gb3 := HB.out.gB hB; have ob1_b3 := oB qb1 hB; have ob2_b3 := oB qb2 hB; have eb3 := eB hB; clear hB; clear qb1 qb2; revert HB; revert kb2; revert kb1; refine uA hb9 ?_; clear hb9; intro kb1 qb1 kb2 qb2 HB; have qb3 := kb3.1; have cb3 := clx kb3; have zb3 := kb3.2.2; refine pl ?_; refine sto kb3 ?_; clear kb3 cb3 zb3; intro w10 kb3 hb11; clear qb1 qb2 qb3; revert HB; revert kb2; revert kb1; refine uO hb11 ?_; clear hb11; intro kb1 qb1 kb2 qb2 HB; have qb3 := kb3.1; refine lx [3] ?_; clear sl1 sl2; intro s12 sl1 sl2 sl3; refine ln ?_; intros
 have cf := rd_at1 (Rd.oldB HRs.out HB.out (by simp)) lf (y := x) (by rw [← getD_get lf 0]; exact Hxf.out); have ct := rd_at1 (Rd.oldB HRs.out HB.out (by simp)) lt (y := y) (by rw [← getD_get lt 0]; exact Hyt.out)
 have hbs : bs < w10.heap.size := by obtain ⟨b', o', e', h', _⟩ := RdInts.ne (Rd.oldB HRs.out HB.out (by simp)) lp; cases e'; exact h'
 have cb1 := clx kb1; obtain ⟨cb2_0, cb2_1, cb2_2, cb2_3, cb2_4, cb2_5, cb2_6, cb2_7⟩ := cl8 kb2; have cb3 := clx kb3; refine rgQ 13 [?_,?_,?_,?_,?_,?_,?_,?_,?_,?_,?_,?_,?_] ?walk2 ?dep2
 case walk2 =>
  iterate 13 refine rq ?_
  refine walkR_nil (fun X hX w13 hwz hcz => ?_); clear hX hcz
  (try clear X)
  skip; have hb14 := hwz.unDrew; clear hwz; clear cb1 cb2_0 cb2_1 cb2_2 cb2_3 cb2_4 cb2_5 cb2_6 cb2_7 cb3; clear qb1 qb2 qb3; revert HB; revert kb3; revert kb2; revert kb1; refine uO hb14 ?_; clear hb14; intro kb1 qb1 kb2 qb2 kb3 qb3 HB; clear cf ct hbs; refine pl ?_; refine lx [4,5] ?_; clear sl1 sl2 sl3; intro s15 sl1 sl2 sl3 sl4 sl5; refine ln ?_; intros
  have cb1 := clx kb1; obtain ⟨cb2_0, cb2_1, cb2_2, cb2_3, cb2_4, cb2_5, cb2_6, cb2_7⟩ := cl8 kb2; have cb3 := clx kb3; refine rgQ 11 [?_,?_,?_,?_,?_,?_,?_,?_,?_,?_,?_] ?walk3 ?dep3
  case walk3 =>
   iterate 4 refine rq ?_
   refine walkR_q (by rfl) (fun X hX wq hwq hrq => ?_) ?_
   · obtain ⟨hcq, hfq⟩ := hwq.b0
     clear hrq; go_simp
     (refine cB ?_; with_reducible exact (rsign_any x _ hxb))
   refine rq ?_; refine walkR_q (by rfl) (fun X hX wq hwq hrq => ?_) ?_
   · obtain ⟨hcq, hfq⟩ := hwq.b0
     clear hrq; go_simp
     (with_reducible exact (rwhen_v op f t nx tm n u (decide (signI x < 0)) _ htm ⟨hop, ⟨by omega, by omega⟩, ⟨by omega, by omega⟩, hnx⟩ Hn.out Hu.out))
   iterate 4 refine rq ?_
   refine walkR_nil (fun X hX w16 hwz hcz => ?_); clear hX hcz
   (try clear X)
   skip; have hb17 := hwz.unDrew; clear hwz; clear cb1 cb2_0 cb2_1 cb2_2 cb2_3 cb2_4 cb2_5 cb2_6 cb2_7 cb3; clear qb1 qb2 qb3; revert HB; revert kb3; revert kb2; revert kb1; refine uO hb17 ?_; clear hb17; intro kb1 qb1 kb2 qb2 kb3 qb3 HB; refine pl ?_; refine lx [6,7] ?_; clear sl1 sl2 sl3 sl4 sl5; intro s18 sl1 sl2 sl3 sl4 sl5 sl6 sl7; refine lr ?_; intros; refine pl ?_; have cb3 := clx kb3; refine P2 ?_; refine lx [39] ?_; clear sl1 sl2 sl3 sl4 sl5 sl6 sl7; intro s19 sl1 sl2 sl3 sl4 sl5 sl6 sl7 sl39; refine ln ?_; intros
   refine cond_E sl39 (by decide) ?_ ?_ <;> (clear sl39; intro h39 sl39)
   ·skip
    have HS := hid (H1.out (by simpa using h39))
    refine nr ?_; intros; refine pl ?_; have cb1 := clx kb1; have zb1 := kb1.2.2; refine pl ?_; refine sto kb1 ?_; clear kb1 cb1 cb3 zb1; intro w20 kb1 hb21; clear qb1 qb2 qb3; revert HB; revert kb3; revert kb2; refine uO hb21 ?_; clear hb21; intro kb2 qb2 kb3 qb3 HB; have qb1 := kb1.1; clear sl3 sl4 sl5 sl6 sl7 sl39; refine lx [] ?_; clear sl1 sl2; intro s22 sl1 sl2; refine lr ?_; intros; have cb1 := clx kb1; refine pl ?_; obtain ⟨cb2_0, cb2_1, cb2_2, cb2_3, cb2_4, cb2_5, cb2_6, cb2_7⟩ := cl8 kb2; have zb2 := kb2.2.2; refine pl ?_; refine sto kb2 ?_; clear kb2 cb1 cb2_0 cb2_1 cb2_2 cb2_3 cb2_4 cb2_5 cb2_6 cb2_7 zb2; intro w23 kb2 hb24; clear qb1 qb2 qb3; revert HB; revert kb3; revert kb1; refine uO hb24 ?_; clear hb24; intro kb1 qb1 kb3 qb3 HB; have qb2 := kb2.1; clear sl1; refine lx [] ?_; clear sl2; intro s25 sl2; refine ln ?_; intros
    obtain ⟨cb2_0, cb2_1, cb2_2, cb2_3, cb2_4, cb2_5, cb2_6, cb2_7⟩ := cl8 kb2; refine XW3c ?_; exact XW3d
   ·skip
    have g39 : ¬ op = 0 := by simpa using h39
    refine zx ?_; intros
    clear cb3; have hj26_1 := hid sl1; have hj26_2 := hid sl2; have hj26_3 := hid sl3; have hj26_4 := hid sl4; have hj26_5 := hid sl5; have hj26_6 := hid sl6; have hj26_7 := hid sl7; refine cut_any (fun sJ wJ => sJ 52 = .bool (decide (op = 6 ∧ tk = tp.length)) ∧ sJ 1 = s19 1 ∧ sJ 2 = s19 2 ∧ sJ 3 = s19 3 ∧ sJ 4 = s19 4 ∧ sJ 5 = s19 5 ∧ sJ 6 = s19 6 ∧ sJ 7 = s19 7 ∧ OldB [] w16 wJ) ?_ ?_
    ·skip
     have HL27 := hid (OldB.refl [] w16); refine region_F ?_; refine pl ?_; have cb3 := clx kb3
     refine P3 ?_
     clear sl39; refine lx [45] ?_; clear sl1 sl2 sl3 sl4 sl5 sl6 sl7; intro s28 sl1 sl2 sl3 sl4 sl5 sl6 sl7 sl45
     refine boolG sl45 (fun sl45' h45 => ?_) (fun sl45' h45 => ?_) <;> (clear sl45; have sl45 := sl45'; clear sl45')
     ·skip
      refine py ?_; have cb1 := clx kb1
      iterate 5 refine py ?_
      refine pl ?_; clear sl45; refine lx [52] ?_; clear sl1 sl2 sl3 sl4 sl5 sl6 sl7; intro s29 sl1 sl2 sl3 sl4 sl5 sl6 sl7 sl52; refine ln ?_; intros
      clear cb1 cb3; exact ⟨trv, _, rfl, (by rw [sl52]; have h := h45; simp at h; congr 1; rw [Bool.eq_iff_iff]; simp [h]; omega), (sl1.trans hj26_1.out.symm), (sl2.trans hj26_2.out.symm), (sl3.trans hj26_3.out.symm), (sl4.trans hj26_4.out.symm), (sl5.trans hj26_5.out.symm), (sl6.trans hj26_6.out.symm), (sl7.trans hj26_7.out.symm), HL27.out⟩
     ·skip
      refine F6 ?_; refine pl ?_; clear sl45; refine lx [52] ?_; clear sl1 sl2 sl3 sl4 sl5 sl6 sl7; intro s30 sl1 sl2 sl3 sl4 sl5 sl6 sl7 sl52; refine ln ?_; intros
      clear cb3; exact ⟨trv, _, rfl, (by rw [sl52]; have h := h45; simp at h; simp [h]), (sl1.trans hj26_1.out.symm), (sl2.trans hj26_2.out.symm), (sl3.trans hj26_3.out.symm), (sl4.trans hj26_4.out.symm), (sl5.trans hj26_5.out.symm), (sl6.trans hj26_6.out.symm), (sl7.trans hj26_7.out.symm), HL27.out⟩
    ·skip
     clear sl39; rintro s31 w32 ⟨sl52, e1, e2, e3, e4, e5, e6, e7, hb33⟩; replace sl1 := e1.trans sl1; clear e1 hj26_1; replace sl2 := e2.trans sl2; clear e2 hj26_2; replace sl3 := e3.trans sl3; clear e3 hj26_3; replace sl4 := e4.trans sl4; clear e4 hj26_4; replace sl5 := e5.trans sl5; clear e5 hj26_5; replace sl6 := e6.trans sl6; clear e6 hj26_6; replace sl7 := e7.trans sl7; clear e7 hj26_7; clear qb1 qb2 qb3; revert HB; revert kb3; revert kb2; revert kb1; refine uO hb33 ?_; clear hb33; intro kb1 qb1 kb2 qb2 kb3 qb3 HB
     refine zx ?_; intros
     refine cond_E sl52 (by decide) ?_ ?_ <;> (clear sl52; intro h52 sl52)
     ·skip
      have HS := hid (H2.out g39 (by simpa using h52))
      refine nr ?_; intros; refine pl ?_; have cb1 := clx kb1; have zb1 := kb1.2.2; refine pl ?_; refine sto kb1 ?_; clear kb1 cb1 zb1; intro w34 kb1 hb35; clear qb1 qb2 qb3; revert HB; revert kb3; revert kb2; refine uO hb35 ?_; clear hb35; intro kb2 qb2 kb3 qb3 HB; have qb1 := kb1.1; clear sl3 sl4 sl5 sl6 sl7 sl52; refine lx [] ?_; clear sl1 sl2; intro s36 sl1 sl2; refine lr ?_; intros; have cb1 := clx kb1; refine pl ?_; obtain ⟨cb2_0, cb2_1, cb2_2, cb2_3, cb2_4, cb2_5, cb2_6, cb2_7⟩ := cl8 kb2; have zb2 := kb2.2.2; refine pl ?_; refine sto kb2 ?_; clear kb2 cb1 cb2_0 cb2_1 cb2_2 cb2_3 cb2_4 cb2_5 cb2_6 cb2_7 zb2; intro w37 kb2 hb38; clear qb1 qb2 qb3; revert HB; revert kb3; revert kb1; refine uO hb38 ?_; clear hb38; intro kb1 qb1 kb3 qb3 HB; have qb2 := kb2.1; clear sl1; refine lx [] ?_; clear sl2; intro s39 sl2; refine ln ?_; intros
      obtain ⟨cb2_0, cb2_1, cb2_2, cb2_3, cb2_4, cb2_5, cb2_6, cb2_7⟩ := cl8 kb2; refine XW3c ?_; exact XW3d
     ·skip
      have G52 := hid (show ¬ (op = 6 ∧ tk = tp.length) by simpa using h52); clear h52
      refine zx ?_; intros
      have hj40_1 := hid sl1; have hj40_2 := hid sl2; have hj40_3 := hid sl3; have hj40_4 := hid sl4; have hj40_5 := hid sl5; have hj40_6 := hid sl6; have hj40_7 := hid sl7; refine cut_any (fun sJ wJ => sJ 63 = .bool (decide (op = 7 ∧ pr.length = 200)) ∧ sJ 1 = s31 1 ∧ sJ 2 = s31 2 ∧ sJ 3 = s31 3 ∧ sJ 4 = s31 4 ∧ sJ 5 = s31 5 ∧ sJ 6 = s31 6 ∧ sJ 7 = s31 7 ∧ OldB [] w32 wJ) ?_ ?_
      ·skip
       have HL41 := hid (OldB.refl [] w32); refine region_F ?_; refine pl ?_; have cb3 := clx kb3
       refine P3 ?_
       clear sl52; refine lx [58] ?_; clear sl1 sl2 sl3 sl4 sl5 sl6 sl7; intro s42 sl1 sl2 sl3 sl4 sl5 sl6 sl7 sl58
       refine boolG sl58 (fun sl58' h58 => ?_) (fun sl58' h58 => ?_) <;> (clear sl58; have sl58 := sl58'; clear sl58')
       ·skip
        refine py ?_; have cb1 := clx kb1
        iterate 3 refine py ?_
        refine pl ?_; clear sl58; refine lx [63] ?_; clear sl1 sl2 sl3 sl4 sl5 sl6 sl7; intro s43 sl1 sl2 sl3 sl4 sl5 sl6 sl7 sl63; refine ln ?_; intros
        clear cb1 cb3; exact ⟨trv, _, rfl, (by rw [sl63]; have h := h58; simp at h; congr 1; rw [Bool.eq_iff_iff]; simp [h]; omega), (sl1.trans hj40_1.out.symm), (sl2.trans hj40_2.out.symm), (sl3.trans hj40_3.out.symm), (sl4.trans hj40_4.out.symm), (sl5.trans hj40_5.out.symm), (sl6.trans hj40_6.out.symm), (sl7.trans hj40_7.out.symm), HL41.out⟩
       ·skip
        refine F4 ?_; refine pl ?_; clear sl58; refine lx [63] ?_; clear sl1 sl2 sl3 sl4 sl5 sl6 sl7; intro s44 sl1 sl2 sl3 sl4 sl5 sl6 sl7 sl63; refine ln ?_; intros
        clear cb3; exact ⟨trv, _, rfl, (by rw [sl63]; have h := h58; simp at h; simp [h]), (sl1.trans hj40_1.out.symm), (sl2.trans hj40_2.out.symm), (sl3.trans hj40_3.out.symm), (sl4.trans hj40_4.out.symm), (sl5.trans hj40_5.out.symm), (sl6.trans hj40_6.out.symm), (sl7.trans hj40_7.out.symm), HL41.out⟩
      ·skip
       clear sl52; rintro s45 w46 ⟨sl63, e1, e2, e3, e4, e5, e6, e7, hb47⟩; replace sl1 := e1.trans sl1; clear e1 hj40_1; replace sl2 := e2.trans sl2; clear e2 hj40_2; replace sl3 := e3.trans sl3; clear e3 hj40_3; replace sl4 := e4.trans sl4; clear e4 hj40_4; replace sl5 := e5.trans sl5; clear e5 hj40_5; replace sl6 := e6.trans sl6; clear e6 hj40_6; replace sl7 := e7.trans sl7; clear e7 hj40_7; clear qb1 qb2 qb3; revert HB; revert kb3; revert kb2; revert kb1; refine uO hb47 ?_; clear hb47; intro kb1 qb1 kb2 qb2 kb3 qb3 HB
       refine zx ?_; intros
       refine cond_E sl63 (by decide) ?_ ?_ <;> (clear sl63; intro h63 sl63)
       ·skip
        have HS := hid (H3.out g39 G52.out (by simpa using h63))
        refine nr ?_; intros; refine pl ?_; have cb1 := clx kb1; have zb1 := kb1.2.2; refine pl ?_; refine sto kb1 ?_; clear kb1 cb1 zb1; intro w48 kb1 hb49; clear qb1 qb2 qb3; revert HB; revert kb3; revert kb2; refine uO hb49 ?_; clear hb49; intro kb2 qb2 kb3 qb3 HB; have qb1 := kb1.1; clear sl3 sl4 sl5 sl6 sl7 sl63; refine lx [] ?_; clear sl1 sl2; intro s50 sl1 sl2; refine lr ?_; intros; have cb1 := clx kb1; refine pl ?_; obtain ⟨cb2_0, cb2_1, cb2_2, cb2_3, cb2_4, cb2_5, cb2_6, cb2_7⟩ := cl8 kb2; have zb2 := kb2.2.2; refine pl ?_; refine sto kb2 ?_; clear kb2 cb1 cb2_0 cb2_1 cb2_2 cb2_3 cb2_4 cb2_5 cb2_6 cb2_7 zb2; intro w51 kb2 hb52; clear qb1 qb2 qb3; revert HB; revert kb3; revert kb1; refine uO hb52 ?_; clear hb52; intro kb1 qb1 kb3 qb3 HB; have qb2 := kb2.1; clear sl1; refine lx [] ?_; clear sl2; intro s53 sl2; refine ln ?_; intros
        obtain ⟨cb2_0, cb2_1, cb2_2, cb2_3, cb2_4, cb2_5, cb2_6, cb2_7⟩ := cl8 kb2; refine XW3c ?_; exact XW3d
       ·skip
        have G63 := hid (show ¬ (op = 7 ∧ pr.length = 200) by simpa using h63); clear h63
        refine nr ?_; intros; refine P2 ?_; clear sl63; refine lx [67] ?_; clear sl1 sl2 sl3 sl4 sl5 sl6 sl7; intro s54 sl1 sl2 sl3 sl4 sl5 sl6 sl7 sl67; refine ln ?_; intros
        refine cond_E sl67 (by decide) ?_ ?_ <;> (clear sl67; intro h67 sl67)
        ·skip
         have HS := hid (H4.out g39 G52.out G63.out (by simpa using h67))
         refine nr ?_; intros; refine pl ?_; have cb1 := clx kb1; have zb1 := kb1.2.2; refine pl ?_; refine sto kb1 ?_; clear kb1 cb1 zb1; intro w55 kb1 hb56; clear qb1 qb2 qb3; revert HB; revert kb3; revert kb2; refine uO hb56 ?_; clear hb56; intro kb2 qb2 kb3 qb3 HB; have qb1 := kb1.1; clear sl3 sl4 sl5 sl6 sl7 sl67; refine lx [] ?_; clear sl1 sl2; intro s57 sl1 sl2; refine lr ?_; intros; have cb1 := clx kb1; refine pl ?_; obtain ⟨cb2_0, cb2_1, cb2_2, cb2_3, cb2_4, cb2_5, cb2_6, cb2_7⟩ := cl8 kb2; have zb2 := kb2.2.2; refine pl ?_; refine sto kb2 ?_; clear kb2 cb1 cb2_0 cb2_1 cb2_2 cb2_3 cb2_4 cb2_5 cb2_6 cb2_7 zb2; intro w58 kb2 hb59; clear qb1 qb2 qb3; revert HB; revert kb3; revert kb1; refine uO hb59 ?_; clear hb59; intro kb1 qb1 kb3 qb3 HB; have qb2 := kb2.1; clear sl1; refine lx [] ?_; clear sl2; intro s60 sl2; refine ln ?_; intros
         obtain ⟨cb2_0, cb2_1, cb2_2, cb2_3, cb2_4, cb2_5, cb2_6, cb2_7⟩ := cl8 kb2; refine XW3c ?_; exact XW3d
        ·skip
         have HS := hid (H5.out g39 G52.out G63.out (by simpa using h67))
         refine nr ?_; intros; obtain ⟨N70, hN70⟩ : ∃ n, n = w46.heap.size := ⟨_, rfl⟩; have gN70 := HB.out.gB hN70; have b1N70 := oB qb1 hN70; have b2N70 := oB qb2 hN70; have b3N70 := oB qb3 hN70
         have hN70' : N70 ≤ w46.heap.size := by omega
         clear hN70; obtain ⟨B70, hB70⟩ : ∃ b, b = w46.heap.size := ⟨_, rfl⟩; refine listF_step rfl (fun K' hK => ?_); unfold opF; go_simp; refine hK _ _ ?_; clear hK K'; refine listF_absw ?_; intro w61 hw'
         have hO70 : Own int1 1 3 N70 w61 (Value.slice (some ⟨w46.heap.size, 0, none⟩) 0 0) ([] : List Int) := by rw [hw']; exact Own.lit (l := ([] : List Int)) (by omega) (by unfold maxLen; simp) rfl (fun _ => rfl)
         have hb62 : Below w46.heap.size w46 w61 := by rw [hw']; exact below_alloc1 _ _
         have hN700 : N70 ≤ w61.heap.size := by have := hb62.size; omega
         clear hw' hN70'; rw [← hB70] at hO70
         (try rw [← hB70])
         clear hB70; clear qb1 qb2 qb3; revert HB; revert kb3; revert kb2; revert kb1; refine uA hb62 ?_; clear hb62; intro kb1 qb1 kb2 qb2 kb3 qb3 HB; refine pl ?_; have cb1 := clx kb1; refine pl ?_; refine listF_step rfl (fun K' hK => ?_); have n0 := (World.ownsRow.lt hO70 B70 rfl).1
         have ab1 : (Value.slice (some ⟨B70, 0, none⟩) 0 0).ownBlock ≠ some B1 := fun e => by simp [Value.ownBlock] at e; omega
         have ab2 : (Value.slice (some ⟨B70, 0, none⟩) 0 0).ownBlock ≠ some B2 := fun e => by simp [Value.ownBlock] at e; omega
         have ab3 : (Value.slice (some ⟨B70, 0, none⟩) 0 0).ownBlock ≠ some B3 := fun e => by simp [Value.ownBlock] at e; omega
         refine opF_app (d := 73) rfl (by decide) (.tmp 70) (.tmp 72) _ rfl 3 i0 _ 8 Tryz.underlying22 hi0 hz0 hy0 hx0 rfl (by decide) (fun _ => rfl) int_one N70 _ [] st (some ⟨bs, os, none⟩) sc (by go_simp) (by go_simp) hO70 (Rd.oldB HRs.out HB.out (by simp)) (by unfold maxLen; simp; omega) (by simp; omega) (by omega) (fun v73 w63 hO' hG hV => hK _ _ ?_); clear hK K'; replace kb1 := kb1.grown hG ab1; clear ab1; replace kb2 := kb2.grown hG ab2; clear ab2; replace kb3 := kb3.grown hG ab3; clear ab3; replace HB := hid (HB.out.grown hG (fun k hk => .inl (by simp [Value.ownBlock] at hk; omega))); replace hN700 := Nat.le_trans hN700 hG.size; rw [List.nil_append] at hO'; obtain ⟨g, c73, rfl, hg1, hg2⟩ := (Own.form hO').resolve_left (fun h => by have h9 := hst.out; rw [h.2] at h9; simp at h9); have kg0 := Own.toCells hO'; clear hO70 hO' hG hV n0 hg2; clear cb1; clear qb1 qb2 qb3; have qb1 := kb1.1
         have qb2 := kb2.1; have qb3 := kb3.1; have kg := kg0; clear kg0; have qg := kg.1; refine pl ?_; have cb1 := clx kb1; have zb1 := kb1.2.2; refine pl ?_; refine sto kb1 ?_; clear kb1 cb1 zb1; intro w65 kb1 hb66; clear qb1 qb2 qb3 qg; revert HB; revert kg; revert kb3; revert kb2; refine uO hb66 ?_; clear hb66; intro kb2 qb2 kb3 qb3 kg qg HB; have qb1 := kb1.1; clear sl67; refine lx [] ?_; clear sl1 sl2 sl3 sl4 sl5 sl6 sl7; intro s67 sl1 sl2 sl3 sl4 sl5 sl6 sl7; refine lr ?_; intros; refine pl ?_; have cb3 := clx kb3; refine P2 ?_; refine lx [77] ?_; clear sl1 sl2 sl3 sl4 sl5 sl6 sl7; intro s68 sl1 sl2 sl3 sl4 sl5 sl6 sl7 sl77; refine ln ?_; intros
         refine cond_E sl77 (by decide) ?_ ?_ <;> (clear sl77; intro h77 sl77)
         ·skip
          have e9 : op = 1 := by simpa using h77
          subst e9
          refine nr ?_; intros; refine pl ?_; have cb1 := clx kb1
          refine P5 ?_
          have zg := kg.2.2; have cgt := ints_cell kg lt; refine pl ?_; refine listF_absw ?_; intro w69 hw'; have kg' := cells_of hw' (Cells.set (kg)); rw [ints_set] at kg'; clear cgt; have hb70 : OldB [g] w65 w69 := oldset hw'; clear hw'; clear cb1 cb3 zg; clear qb1 qb2 qb3 qg; replace kg := kg'; revert HB; revert kb3; revert kb2; revert kb1; refine uO hb70 ?_; clear hb70; intro kb1 qb1 kb2 qb2 kb3 qb3 HB; have qg := kg.1; clear kg'; clear sl77; refine lx [] ?_; clear sl1 sl2 sl3 sl4 sl5 sl6 sl7; intro s71 sl1 sl2 sl3 sl4 sl5 sl6 sl7
          refine lr ?_; intros; refine pl ?_; have cb3 := clx kb3; refine P2 ?_; refine lx [86] ?_; clear sl1 sl2 sl3 sl4 sl5 sl6 sl7; intro s72 sl1 sl2 sl3 sl4 sl5 sl6 sl7 sl86; refine ln ?_; intros
          refine cond_f ?_
          refine nr ?_; intros
          refine P3 ?_
          clear sl86; refine lx [98] ?_; clear sl1 sl2 sl3 sl4 sl5 sl6 sl7; intro s73 sl1 sl2 sl3 sl4 sl5 sl6 sl7 sl98; refine ln ?_; intros
          refine cond_f ?_
          refine nr ?_; intros
          refine P3 ?_
          clear sl98; refine lx [111] ?_; clear sl1 sl2 sl3 sl4 sl5 sl6 sl7; intro s74 sl1 sl2 sl3 sl4 sl5 sl6 sl7 sl111; refine ln ?_; intros
          refine cond_f ?_
          refine nr ?_; intros
          refine P3 ?_
          clear sl5 sl111; refine lx [122] ?_; clear sl1 sl2 sl3 sl4 sl6 sl7; intro s75 sl1 sl2 sl3 sl4 sl6 sl7 sl122; refine ln ?_; intros
          refine cond_f ?_
          refine nr ?_; intros
          refine P3 ?_
          clear sl3 sl122; refine lx [140] ?_; clear sl1 sl2 sl4 sl6 sl7; intro s76 sl1 sl2 sl4 sl6 sl7 sl140; refine ln ?_; intros
          refine cond_f ?_
          refine nr ?_; intros
          refine P3 ?_
          have cb1 := clx kb1
          refine P3 ?_
          have zb1 := kb1.2.2; refine pl ?_; refine sto kb1 ?_; clear kb1 cb1 cb3 zb1; intro w77 kb1 hb78; clear qb1 qb2 qb3 qg; revert HB; revert kg; revert kb3; revert kb2; refine uO hb78 ?_; clear hb78; intro kb2 qb2 kb3 qb3 kg qg HB; have qb1 := kb1.1; refine pl ?_; have cb1 := clx kb1; have zb1 := kb1.2.2; refine pl ?_; refine sto kb1 ?_; clear kb1 cb1 zb1; intro w79 kb1 hb80; clear qb1 qb2 qb3 qg; revert HB; revert kg; revert kb3; revert kb2; refine uO hb80 ?_; clear hb80; intro kb2 qb2 kb3 qb3 kg qg HB; have qb1 := kb1.1; refine pl ?_; have cb1 := clx kb1; have zb1 := kb1.2.2; refine pl ?_; refine sto kb1 ?_; clear kb1 cb1 zb1; intro w81 kb1 hb82; clear qb1 qb2 qb3 qg; revert HB; revert kg; revert kb3; revert kb2; refine uO hb82 ?_; clear hb82; intro kb2 qb2 kb3 qb3 kg qg HB; have qb1 := kb1.1; clear sl4 sl6 sl7 sl140; refine lx [] ?_; clear sl1 sl2; intro s83 sl1 sl2; refine lr ?_; intros; have cb1 := clx kb1; refine pl ?_; obtain ⟨cb2_0, cb2_1, cb2_2, cb2_3, cb2_4, cb2_5, cb2_6, cb2_7⟩ := cl8 kb2; have zb2 := kb2.2.2; refine pl ?_; refine sto kb2 ?_; clear kb2 cb1 cb2_0 cb2_1 cb2_2 cb2_3 cb2_4 cb2_5 cb2_6 cb2_7 zb2; intro w84 kb2 hb85; clear qb1 qb2 qb3 qg; revert HB; revert kg; revert kb3; revert kb1; refine uO hb85 ?_; clear hb85; intro kb1 qb1 kb3 qb3 kg qg HB; have qb2 := kb2.1; clear sl1; refine lx [] ?_; clear sl2; intro s86 sl2; refine ln ?_; intros
          obtain ⟨cb2_0, cb2_1, cb2_2, cb2_3, cb2_4, cb2_5, cb2_6, cb2_7⟩ := cl8 kb2; refine XW3c ?_
          have eS : step4 s = ⟨st.set t x, tp, (tk : Int), pr, u, n, dn + 1, wy⟩ := by rw [HS.out]; simp [storeO]
          exact ⟨⟨some ⟨g, 0, none⟩, c73, ta, tc, qa, qc⟩, by rw [eS] <;> (first | rfl | (simp; done)), by rw [eS]; exact ⟨Cells.rd (f := int1) (m := 1) (fun _ => rfl) kg, Rd.oldB HRt.out HB.out (by simp), (Rd.oldB HRp.out HB.out (by simp))⟩, by rw [eS]; exact fun k hk h => ⟨fun _ b hb => by cases hb; show g ≠ k; omega, h.2.1, h.2.2⟩, HB.out.toBelow⟩
         ·skip
          have g77 : ¬ op = 1 := by simpa using h77
          refine nr ?_; intros
          refine P3 ?_
          clear sl77; refine lx [86] ?_; clear sl1 sl2 sl3 sl4 sl5 sl6 sl7; intro s87 sl1 sl2 sl3 sl4 sl5 sl6 sl7 sl86; refine ln ?_; intros
          refine cond_E sl86 (by decide) ?_ ?_ <;> (clear sl86; intro h86 sl86)
          ·skip
           have e9 : op = 2 := by simpa using h86
           subst e9; have wa : IntKind.i64.wrap (x + y) = x + y := IntWalk.i64_in _ (by omega); have ta' : (x + y).tmod 16777216 = (x + y) % 16777216 := Int.tmod_eq_emod_of_nonneg (by omega); have wb : IntKind.i64.wrap ((x + y) % 16777216) = (x + y) % 16777216 := IntWalk.i64_in _ (by omega)
           refine nr ?_; intros; refine pl ?_; have cb1 := clx kb1
           refine P8 ?_
           have zg := kg.2.2; have cgt := ints_cell kg lt; refine pl ?_; refine listF_absw ?_; intro w88 hw'; have kg' := cells_of hw' (Cells.set (kg)); rw [ints_set] at kg'; clear cgt; have hb89 : OldB [g] w65 w88 := oldset hw'; clear hw'; clear cb1 cb3 zg; clear qb1 qb2 qb3 qg; replace kg := kg'; revert HB; revert kb3; revert kb2; revert kb1; refine uO hb89 ?_; clear hb89; intro kb1 qb1 kb2 qb2 kb3 qb3 HB; have qg := kg.1; clear kg'; clear sl86; refine lx [] ?_; clear sl1 sl2 sl3 sl4 sl5 sl6 sl7; intro s90 sl1 sl2 sl3 sl4 sl5 sl6 sl7
           refine lr ?_; intros; refine pl ?_; have cb3 := clx kb3; refine P2 ?_; refine lx [98] ?_; clear sl1 sl2 sl3 sl4 sl5 sl6 sl7; intro s91 sl1 sl2 sl3 sl4 sl5 sl6 sl7 sl98; refine ln ?_; intros
           refine cond_f ?_
           refine nr ?_; intros
           refine P3 ?_
           clear sl98; refine lx [111] ?_; clear sl1 sl2 sl3 sl4 sl5 sl6 sl7; intro s92 sl1 sl2 sl3 sl4 sl5 sl6 sl7 sl111; refine ln ?_; intros
           refine cond_f ?_
           refine nr ?_; intros
           refine P3 ?_
           clear sl5 sl111; refine lx [122] ?_; clear sl1 sl2 sl3 sl4 sl6 sl7; intro s93 sl1 sl2 sl3 sl4 sl6 sl7 sl122; refine ln ?_; intros
           refine cond_f ?_
           refine nr ?_; intros
           refine P3 ?_
           clear sl3 sl122; refine lx [140] ?_; clear sl1 sl2 sl4 sl6 sl7; intro s94 sl1 sl2 sl4 sl6 sl7 sl140; refine ln ?_; intros
           refine cond_f ?_
           refine nr ?_; intros
           refine P3 ?_
           have cb1 := clx kb1
           refine P3 ?_
           have zb1 := kb1.2.2; refine pl ?_; refine sto kb1 ?_; clear kb1 cb1 cb3 zb1; intro w95 kb1 hb96; clear qb1 qb2 qb3 qg; revert HB; revert kg; revert kb3; revert kb2; refine uO hb96 ?_; clear hb96; intro kb2 qb2 kb3 qb3 kg qg HB; have qb1 := kb1.1; refine pl ?_; have cb1 := clx kb1; have zb1 := kb1.2.2; refine pl ?_; refine sto kb1 ?_; clear kb1 cb1 zb1; intro w97 kb1 hb98; clear qb1 qb2 qb3 qg; revert HB; revert kg; revert kb3; revert kb2; refine uO hb98 ?_; clear hb98; intro kb2 qb2 kb3 qb3 kg qg HB; have qb1 := kb1.1; refine pl ?_; have cb1 := clx kb1; have zb1 := kb1.2.2; refine pl ?_; refine sto kb1 ?_; clear kb1 cb1 zb1; intro w99 kb1 hb100; clear qb1 qb2 qb3 qg; revert HB; revert kg; revert kb3; revert kb2; refine uO hb100 ?_; clear hb100; intro kb2 qb2 kb3 qb3 kg qg HB; have qb1 := kb1.1; clear sl4 sl6 sl7 sl140; refine lx [] ?_; clear sl1 sl2; intro s101 sl1 sl2; refine lr ?_; intros; have cb1 := clx kb1; refine pl ?_; obtain ⟨cb2_0, cb2_1, cb2_2, cb2_3, cb2_4, cb2_5, cb2_6, cb2_7⟩ := cl8 kb2; have zb2 := kb2.2.2; refine pl ?_; refine sto kb2 ?_; clear kb2 cb1 cb2_0 cb2_1 cb2_2 cb2_3 cb2_4 cb2_5 cb2_6 cb2_7 zb2; intro w102 kb2 hb103; clear qb1 qb2 qb3 qg; revert HB; revert kg; revert kb3; revert kb1; refine uO hb103 ?_; clear hb103; intro kb1 qb1 kb3 qb3 kg qg HB; have qb2 := kb2.1; clear sl1; refine lx [] ?_; clear sl2; intro s104 sl2; refine ln ?_; intros
           obtain ⟨cb2_0, cb2_1, cb2_2, cb2_3, cb2_4, cb2_5, cb2_6, cb2_7⟩ := cl8 kb2; refine XW3c ?_
           have eS : step4 s = ⟨st.set t ((x + y) % 16777216), tp, (tk : Int), pr, u, n, dn + 1, wy⟩ := by rw [HS.out]; simp [storeO]
           exact ⟨⟨some ⟨g, 0, none⟩, c73, ta, tc, qa, qc⟩, by rw [eS] <;> (first | rfl | (simp; done)), by rw [eS]; exact ⟨Cells.rd (f := int1) (m := 1) (fun _ => rfl) kg, Rd.oldB HRt.out HB.out (by simp), (Rd.oldB HRp.out HB.out (by simp))⟩, by rw [eS]; exact fun k hk h => ⟨fun _ b hb => by cases hb; show g ≠ k; omega, h.2.1, h.2.2⟩, HB.out.toBelow⟩
          ·skip
           have g86 : ¬ op = 2 := by simpa using h86
           refine nr ?_; intros
           refine P3 ?_
           clear sl86; refine lx [98] ?_; clear sl1 sl2 sl3 sl4 sl5 sl6 sl7; intro s105 sl1 sl2 sl3 sl4 sl5 sl6 sl7 sl98; refine ln ?_; intros
           refine cond_E sl98 (by decide) ?_ ?_ <;> (clear sl98; intro h98 sl98)
           ·skip
            have e9 : op = 3 := by simpa using h98
            subst e9; have wa : IntKind.i64.wrap (y - x) = y - x := IntWalk.i64_in _ (by omega); have wc : IntKind.i64.wrap (y - x + 16777216) = y - x + 16777216 := IntWalk.i64_in _ (by omega)
            have ta' : (y - x + 16777216).tmod 16777216 = (y - x) % 16777216 := by rw [Int.tmod_eq_emod_of_nonneg (by omega)]; omega
            have wb : IntKind.i64.wrap ((y - x) % 16777216) = (y - x) % 16777216 := IntWalk.i64_in _ (by omega)
            refine nr ?_; intros; refine pl ?_; have cb1 := clx kb1
            refine P9 ?_
            have zg := kg.2.2; have cgt := ints_cell kg lt; refine pl ?_; refine listF_absw ?_; intro w106 hw'; have kg' := cells_of hw' (Cells.set (kg)); rw [ints_set] at kg'; clear cgt; have hb107 : OldB [g] w65 w106 := oldset hw'; clear hw'; clear cb1 cb3 zg; clear qb1 qb2 qb3 qg; replace kg := kg'; revert HB; revert kb3; revert kb2; revert kb1; refine uO hb107 ?_; clear hb107; intro kb1 qb1 kb2 qb2 kb3 qb3 HB; have qg := kg.1; clear kg'; clear sl98; refine lx [] ?_; clear sl1 sl2 sl3 sl4 sl5 sl6 sl7; intro s108 sl1 sl2 sl3 sl4 sl5 sl6 sl7
            refine lr ?_; intros; refine pl ?_; have cb3 := clx kb3; refine P2 ?_; refine lx [111] ?_; clear sl1 sl2 sl3 sl4 sl5 sl6 sl7; intro s109 sl1 sl2 sl3 sl4 sl5 sl6 sl7 sl111; refine ln ?_; intros
            refine cond_f ?_
            refine nr ?_; intros
            refine P3 ?_
            clear sl5 sl111; refine lx [122] ?_; clear sl1 sl2 sl3 sl4 sl6 sl7; intro s110 sl1 sl2 sl3 sl4 sl6 sl7 sl122; refine ln ?_; intros
            refine cond_f ?_
            refine nr ?_; intros
            refine P3 ?_
            clear sl3 sl122; refine lx [140] ?_; clear sl1 sl2 sl4 sl6 sl7; intro s111 sl1 sl2 sl4 sl6 sl7 sl140; refine ln ?_; intros
            refine cond_f ?_
            refine nr ?_; intros
            refine P3 ?_
            have cb1 := clx kb1
            refine P3 ?_
            have zb1 := kb1.2.2; refine pl ?_; refine sto kb1 ?_; clear kb1 cb1 cb3 zb1; intro w112 kb1 hb113; clear qb1 qb2 qb3 qg; revert HB; revert kg; revert kb3; revert kb2; refine uO hb113 ?_; clear hb113; intro kb2 qb2 kb3 qb3 kg qg HB; have qb1 := kb1.1; refine pl ?_; have cb1 := clx kb1; have zb1 := kb1.2.2; refine pl ?_; refine sto kb1 ?_; clear kb1 cb1 zb1; intro w114 kb1 hb115; clear qb1 qb2 qb3 qg; revert HB; revert kg; revert kb3; revert kb2; refine uO hb115 ?_; clear hb115; intro kb2 qb2 kb3 qb3 kg qg HB; have qb1 := kb1.1; refine pl ?_; have cb1 := clx kb1; have zb1 := kb1.2.2; refine pl ?_; refine sto kb1 ?_; clear kb1 cb1 zb1; intro w116 kb1 hb117; clear qb1 qb2 qb3 qg; revert HB; revert kg; revert kb3; revert kb2; refine uO hb117 ?_; clear hb117; intro kb2 qb2 kb3 qb3 kg qg HB; have qb1 := kb1.1; clear sl4 sl6 sl7 sl140; refine lx [] ?_; clear sl1 sl2; intro s118 sl1 sl2; refine lr ?_; intros; have cb1 := clx kb1; refine pl ?_; obtain ⟨cb2_0, cb2_1, cb2_2, cb2_3, cb2_4, cb2_5, cb2_6, cb2_7⟩ := cl8 kb2; have zb2 := kb2.2.2; refine pl ?_; refine sto kb2 ?_; clear kb2 cb1 cb2_0 cb2_1 cb2_2 cb2_3 cb2_4 cb2_5 cb2_6 cb2_7 zb2; intro w119 kb2 hb120; clear qb1 qb2 qb3 qg; revert HB; revert kg; revert kb3; revert kb1; refine uO hb120 ?_; clear hb120; intro kb1 qb1 kb3 qb3 kg qg HB; have qb2 := kb2.1; clear sl1; refine lx [] ?_; clear sl2; intro s121 sl2; refine ln ?_; intros
            obtain ⟨cb2_0, cb2_1, cb2_2, cb2_3, cb2_4, cb2_5, cb2_6, cb2_7⟩ := cl8 kb2; refine XW3c ?_
            have eS : step4 s = ⟨st.set t ((y - x) % 16777216), tp, (tk : Int), pr, u, n, dn + 1, wy⟩ := by rw [HS.out]; simp [storeO]
            exact ⟨⟨some ⟨g, 0, none⟩, c73, ta, tc, qa, qc⟩, by rw [eS] <;> (first | rfl | (simp; done)), by rw [eS]; exact ⟨Cells.rd (f := int1) (m := 1) (fun _ => rfl) kg, Rd.oldB HRt.out HB.out (by simp), (Rd.oldB HRp.out HB.out (by simp))⟩, by rw [eS]; exact fun k hk h => ⟨fun _ b hb => by cases hb; show g ≠ k; omega, h.2.1, h.2.2⟩, HB.out.toBelow⟩
           ·skip
            have g98 : ¬ op = 3 := by simpa using h98
            refine nr ?_; intros
            refine P3 ?_
            clear sl98; refine lx [111] ?_; clear sl1 sl2 sl3 sl4 sl5 sl6 sl7; intro s122 sl1 sl2 sl3 sl4 sl5 sl6 sl7 sl111; refine ln ?_; intros
            refine cond_E sl111 (by decide) ?_ ?_ <;> (clear sl111; intro h111 sl111)
            ·skip
             have e9 : op = 4 := by simpa using h111
             subst e9
             refine zx ?_; intros
             have cb1 := clx kb1; obtain ⟨cb2_0, cb2_1, cb2_2, cb2_3, cb2_4, cb2_5, cb2_6, cb2_7⟩ := cl8 kb2; refine rgQ 7 [?_,?_,?_,?_,?_,?_,?_] ?walk4 ?dep4
             case walk4 =>
              iterate 6 refine rq ?_
              refine walkR_q (by rfl) (fun X hX wq hwq hrq => ?_) ?_
              · obtain ⟨hcq, hfq⟩ := hwq.b0
                clear hrq; go_simp
                (with_reducible exact (rprod_any x y _ hxb hyb))
              refine walkR_nil (fun X hX w123 hwz hcz => ?_); clear hX hcz
              (try clear X)
              skip; have hb124 := hwz.unDrew; clear hwz; clear cb1 cb2_0 cb2_1 cb2_2 cb2_3 cb2_4 cb2_5 cb2_6 cb2_7 cb3; clear qb1 qb2 qb3 qg; revert HB; revert kg; revert kb3; revert kb2; revert kb1; refine uO hb124 ?_; clear hb124; intro kb1 qb1 kb2 qb2 kb3 qb3 kg qg HB; refine pl ?_; have zg := kg.2.2; have cgt := ints_cell kg lt; refine pl ?_; refine listF_absw ?_; intro w125 hw'; have kg' := cells_of hw' (Cells.set (kg)); rw [ints_set] at kg'; clear cgt; have hb126 : OldB [g] w123 w125 := oldset hw'; clear hw'; clear zg; clear qb1 qb2 qb3 qg; replace kg := kg'; revert HB; revert kb3; revert kb2; revert kb1; refine uO hb126 ?_; clear hb126; intro kb1 qb1 kb2 qb2 kb3 qb3 HB; have qg := kg.1; clear kg'; clear sl5 sl111; refine lx [] ?_; clear sl1 sl2 sl3 sl4 sl6 sl7; intro s127 sl1 sl2 sl3 sl4 sl6 sl7; refine lr ?_; intros; refine pl ?_; have cb3 := clx kb3; refine P2 ?_; refine lx [122] ?_; clear sl1 sl2 sl3 sl4 sl6 sl7; intro s128 sl1 sl2 sl3 sl4 sl6 sl7 sl122; refine ln ?_; intros
              refine cond_f ?_
              refine nr ?_; intros
              refine P3 ?_
              clear sl3 sl122; refine lx [140] ?_; clear sl1 sl2 sl4 sl6 sl7; intro s129 sl1 sl2 sl4 sl6 sl7 sl140; refine ln ?_; intros
              refine cond_f ?_
              refine nr ?_; intros
              refine P3 ?_
              have cb1 := clx kb1
              refine P3 ?_
              have zb1 := kb1.2.2; refine pl ?_; refine sto kb1 ?_; clear kb1 cb1 cb3 zb1; intro w130 kb1 hb131; clear qb1 qb2 qb3 qg; revert HB; revert kg; revert kb3; revert kb2; refine uO hb131 ?_; clear hb131; intro kb2 qb2 kb3 qb3 kg qg HB; have qb1 := kb1.1; refine pl ?_; have cb1 := clx kb1; have zb1 := kb1.2.2; refine pl ?_; refine sto kb1 ?_; clear kb1 cb1 zb1; intro w132 kb1 hb133; clear qb1 qb2 qb3 qg; revert HB; revert kg; revert kb3; revert kb2; refine uO hb133 ?_; clear hb133; intro kb2 qb2 kb3 qb3 kg qg HB; have qb1 := kb1.1; refine pl ?_; have cb1 := clx kb1; have zb1 := kb1.2.2; refine pl ?_; refine sto kb1 ?_; clear kb1 cb1 zb1; intro w134 kb1 hb135; clear qb1 qb2 qb3 qg; revert HB; revert kg; revert kb3; revert kb2; refine uO hb135 ?_; clear hb135; intro kb2 qb2 kb3 qb3 kg qg HB; have qb1 := kb1.1; clear sl4 sl6 sl7 sl140; refine lx [] ?_; clear sl1 sl2; intro s136 sl1 sl2; refine lr ?_; intros; have cb1 := clx kb1; refine pl ?_; obtain ⟨cb2_0, cb2_1, cb2_2, cb2_3, cb2_4, cb2_5, cb2_6, cb2_7⟩ := cl8 kb2; have zb2 := kb2.2.2; refine pl ?_; refine sto kb2 ?_; clear kb2 cb1 cb2_0 cb2_1 cb2_2 cb2_3 cb2_4 cb2_5 cb2_6 cb2_7 zb2; intro w137 kb2 hb138; clear qb1 qb2 qb3 qg; revert HB; revert kg; revert kb3; revert kb1; refine uO hb138 ?_; clear hb138; intro kb1 qb1 kb3 qb3 kg qg HB; have qb2 := kb2.1; clear sl1; refine lx [] ?_; clear sl2; intro s139 sl2; refine ln ?_; intros
              obtain ⟨cb2_0, cb2_1, cb2_2, cb2_3, cb2_4, cb2_5, cb2_6, cb2_7⟩ := cl8 kb2; refine XW3c ?_
              have eS : step4 s = ⟨st.set t (prodI x y), tp, (tk : Int), pr, u, n, dn + 1, wy⟩ := by rw [HS.out]; simp [storeO]
              exact ⟨⟨some ⟨g, 0, none⟩, c73, ta, tc, qa, qc⟩, by rw [eS] <;> (first | rfl | (simp; done)), by rw [eS]; exact ⟨Cells.rd (f := int1) (m := 1) (fun _ => rfl) kg, Rd.oldB HRt.out HB.out (by simp), (Rd.oldB HRp.out HB.out (by simp))⟩, by rw [eS]; exact fun k hk h => ⟨fun _ b hb => by cases hb; show g ≠ k; omega, h.2.1, h.2.2⟩, HB.out.toBelow⟩
             case dep4 => exact dA
            ·skip
             have g111 : ¬ op = 4 := by simpa using h111
             refine nr ?_; intros
             refine P3 ?_
             clear sl5 sl111; refine lx [122] ?_; clear sl1 sl2 sl3 sl4 sl6 sl7; intro s140 sl1 sl2 sl3 sl4 sl6 sl7 sl122; refine ln ?_; intros
             refine cond_E sl122 (by decide) ?_ ?_ <;> (clear sl122; intro h122 sl122)
             ·skip
              have e9 : op = 6 := by simpa using h122
              subst e9
              have htl : tk < tp.length := by have h9 := G52.out; simp at h9; omega
              have itl : (tk : Int) < tp.length := by omega
              have wtk : IntKind.i64.wrap ((tk : Int) + 1) = tk + 1 := IntWalk.i64_in _ (by omega)
              refine zx ?_; intros
              obtain ⟨bt, ot, hat, hbt, c0⟩ := RdInts.ne (Rd.oldB HRt.out HB.out (by simp)) htl; subst hat; obtain ⟨z, hz⟩ : ∃ z, tp[tk] = z := ⟨_, rfl⟩; rw [hz] at c0; have Hz := hid (show tp.getD tk 0 = z by rw [getD_get htl, hz]); clear hz; have cb1 := clx kb1; obtain ⟨cb2_0, cb2_1, cb2_2, cb2_3, cb2_4, cb2_5, cb2_6, cb2_7⟩ := cl8 kb2; refine rgQ 10 [?_,?_,?_,?_,?_,?_,?_,?_,?_,?_] ?walk5 ?dep5
              case walk5 =>
               iterate 10 refine rq ?_
               refine walkR_nil (fun X hX w141 hwz hcz => ?_); clear hX hcz
               (try clear X)
               skip; have hb142 := hwz.unDrew; clear hwz; clear cb1 cb2_0 cb2_1 cb2_2 cb2_3 cb2_4 cb2_5 cb2_6 cb2_7 cb3; clear qb1 qb2 qb3 qg; revert HB; revert kg; revert kb3; revert kb2; revert kb1; refine uO hb142 ?_; clear hb142; intro kb1 qb1 kb2 qb2 kb3 qb3 kg qg HB; clear c0; refine pl ?_; have zg := kg.2.2; have cgt := ints_cell kg lt; refine pl ?_; refine listF_absw ?_; intro w143 hw'; have kg' := cells_of hw' (Cells.set (kg)); rw [ints_set] at kg'; clear cgt; have hb144 : OldB [g] w141 w143 := oldset hw'; clear hw'; clear zg; clear qb1 qb2 qb3 qg; replace kg := kg'; revert HB; revert kb3; revert kb2; revert kb1; refine uO hb144 ?_; clear hb144; intro kb1 qb1 kb2 qb2 kb3 qb3 HB; have qg := kg.1; clear kg'; clear sl122; refine lx [] ?_; clear sl1 sl2 sl3 sl4 sl6 sl7; intro s145 sl1 sl2 sl3 sl4 sl6 sl7; refine lr ?_; intros; refine pl ?_; have cb1 := clx kb1
               refine P3 ?_
               have zb1 := kb1.2.2; refine pl ?_; refine sto kb1 ?_; clear kb1 cb1 zb1; intro w146 kb1 hb147; clear qb1 qb2 qb3 qg; revert HB; revert kg; revert kb3; revert kb2; refine uO hb147 ?_; clear hb147; intro kb2 qb2 kb3 qb3 kg qg HB; have qb1 := kb1.1; refine lx [] ?_; clear sl1 sl2 sl3 sl4 sl6 sl7; intro s148 sl1 sl2 sl3 sl4 sl6 sl7; refine lr ?_; intros; refine pl ?_; have cb3 := clx kb3; refine P2 ?_; clear sl3; refine lx [140] ?_; clear sl1 sl2 sl4 sl6 sl7; intro s149 sl1 sl2 sl4 sl6 sl7 sl140; refine ln ?_; intros
               refine cond_f ?_
               refine nr ?_; intros
               refine P3 ?_
               have cb1 := clx kb1
               refine P3 ?_
               have zb1 := kb1.2.2; refine pl ?_; refine sto kb1 ?_; clear kb1 cb1 cb3 zb1; intro w150 kb1 hb151; clear qb1 qb2 qb3 qg; revert HB; revert kg; revert kb3; revert kb2; refine uO hb151 ?_; clear hb151; intro kb2 qb2 kb3 qb3 kg qg HB; have qb1 := kb1.1; refine pl ?_; have cb1 := clx kb1; have zb1 := kb1.2.2; refine pl ?_; refine sto kb1 ?_; clear kb1 cb1 zb1; intro w152 kb1 hb153; clear qb1 qb2 qb3 qg; revert HB; revert kg; revert kb3; revert kb2; refine uO hb153 ?_; clear hb153; intro kb2 qb2 kb3 qb3 kg qg HB; have qb1 := kb1.1; refine pl ?_; have cb1 := clx kb1; have zb1 := kb1.2.2; refine pl ?_; refine sto kb1 ?_; clear kb1 cb1 zb1; intro w154 kb1 hb155; clear qb1 qb2 qb3 qg; revert HB; revert kg; revert kb3; revert kb2; refine uO hb155 ?_; clear hb155; intro kb2 qb2 kb3 qb3 kg qg HB; have qb1 := kb1.1; clear sl4 sl6 sl7 sl140; refine lx [] ?_; clear sl1 sl2; intro s156 sl1 sl2; refine lr ?_; intros; have cb1 := clx kb1; refine pl ?_; obtain ⟨cb2_0, cb2_1, cb2_2, cb2_3, cb2_4, cb2_5, cb2_6, cb2_7⟩ := cl8 kb2; have zb2 := kb2.2.2; refine pl ?_; refine sto kb2 ?_; clear kb2 cb1 cb2_0 cb2_1 cb2_2 cb2_3 cb2_4 cb2_5 cb2_6 cb2_7 zb2; intro w157 kb2 hb158; clear qb1 qb2 qb3 qg; revert HB; revert kg; revert kb3; revert kb1; refine uO hb158 ?_; clear hb158; intro kb1 qb1 kb3 qb3 kg qg HB; have qb2 := kb2.1; clear sl1; refine lx [] ?_; clear sl2; intro s159 sl2; refine ln ?_; intros
               obtain ⟨cb2_0, cb2_1, cb2_2, cb2_3, cb2_4, cb2_5, cb2_6, cb2_7⟩ := cl8 kb2; refine XW3c ?_
               have eS : step4 s = ⟨st.set t z, tp, (tk : Int) + 1, pr, u, n, dn + 1, wy⟩ := by rw [HS.out]; have hz9 := Hz.out; rw [List.getD_eq_getElem?_getD] at hz9; simp [storeO, hz9]
               exact ⟨⟨some ⟨g, 0, none⟩, c73, (some ⟨bt, ot, none⟩), tc, qa, qc⟩, by rw [eS] <;> (first | rfl | (simp; done)), by rw [eS]; exact ⟨Cells.rd (f := int1) (m := 1) (fun _ => rfl) kg, Rd.oldB HRt.out HB.out (by simp), (Rd.oldB HRp.out HB.out (by simp))⟩, by rw [eS]; exact fun k hk h => ⟨fun _ b hb => by cases hb; show g ≠ k; omega, h.2.1, h.2.2⟩, HB.out.toBelow⟩
              case dep5 => exact dA
             ·skip
              have g122 : ¬ op = 6 := by simpa using h122
              refine nr ?_; intros
              refine P3 ?_
              clear sl3 sl122; refine lx [140] ?_; clear sl1 sl2 sl4 sl6 sl7; intro s160 sl1 sl2 sl4 sl6 sl7 sl140; refine ln ?_; intros
              refine cond_E sl140 (by decide) ?_ ?_ <;> (clear sl140; intro h140 sl140)
              ·skip
               have e9 : op = 7 := by simpa using h140
               subst e9
               refine nr ?_; intros; obtain ⟨N141, hN141⟩ : ∃ n, n = w65.heap.size := ⟨_, rfl⟩; have gN141 := HB.out.gB hN141; have b1N141 := oB qb1 hN141; have b2N141 := oB qb2 hN141; have b3N141 := oB qb3 hN141; have gN141 := oB qg hN141
               have hN141' : N141 ≤ w65.heap.size := by omega
               clear hN141; obtain ⟨B141, hB141⟩ : ∃ b, b = w65.heap.size := ⟨_, rfl⟩; refine listF_step rfl (fun K' hK => ?_); unfold opF; go_simp; refine hK _ _ ?_; clear hK K'; refine listF_absw ?_; intro w161 hw'
               have hO141 : Own int1 1 3 N141 w161 (Value.slice (some ⟨w65.heap.size, 0, none⟩) 0 0) ([] : List Int) := by rw [hw']; exact Own.lit (l := ([] : List Int)) (by omega) (by unfold maxLen; simp) rfl (fun _ => rfl)
               have hb162 : Below w65.heap.size w65 w161 := by rw [hw']; exact below_alloc1 _ _
               have hN1410 : N141 ≤ w161.heap.size := by have := hb162.size; omega
               clear hw' hN141'; rw [← hB141] at hO141
               (try rw [← hB141])
               clear hB141; clear cb3; clear qb1 qb2 qb3 qg; revert HB; revert kg; revert kb3; revert kb2; revert kb1; refine uA hb162 ?_; clear hb162; intro kb1 qb1 kb2 qb2 kb3 qb3 kg qg HB; refine pl ?_; have cb1 := clx kb1; refine pl ?_; refine listF_step rfl (fun K' hK => ?_); have n0 := (World.ownsRow.lt hO141 B141 rfl).1
               have ab1 : (Value.slice (some ⟨B141, 0, none⟩) 0 0).ownBlock ≠ some B1 := fun e => by simp [Value.ownBlock] at e; omega
               have ab2 : (Value.slice (some ⟨B141, 0, none⟩) 0 0).ownBlock ≠ some B2 := fun e => by simp [Value.ownBlock] at e; omega
               have ab3 : (Value.slice (some ⟨B141, 0, none⟩) 0 0).ownBlock ≠ some B3 := fun e => by simp [Value.ownBlock] at e; omega
               have ag : (Value.slice (some ⟨B141, 0, none⟩) 0 0).ownBlock ≠ some g := fun e => by simp [Value.ownBlock] at e; omega
               refine opF_app (d := 144) rfl (by decide) (.tmp 141) (.tmp 143) _ rfl 3 i0 _ 8 Tryz.underlying22 hi0 hz0 hy0 hx0 rfl (by decide) (fun _ => rfl) int_one N141 _ [] pr qa qc (by go_simp) (by go_simp) hO141 (Rd.oldB HRp.out HB.out (by simp)) (by unfold maxLen; simp; omega) (by simp; omega) (by omega) (fun v144 w163 hO' hG hV => hK _ _ ?_); clear hK K'; replace kb1 := kb1.grown hG ab1; clear ab1; replace kb2 := kb2.grown hG ab2; clear ab2; replace kb3 := kb3.grown hG ab3; clear ab3; replace kg := kg.grown hG ag; clear ag; replace HB := hid (HB.out.grown hG (fun k hk => .inl (by simp [Value.ownBlock] at hk; omega))); replace hN1410 := Nat.le_trans hN1410 hG.size; rw [List.nil_append] at hO'; have hO144 := hO'; clear hO141 hO' hG hV n0; clear cb1; clear qb1 qb2 qb3 qg; have qb1 := kb1.1; have qb2 := kb2.1; have qb3 := kb3.1; have qg := kg.1; refine pl ?_; refine pas (fun w165 B146 hB kb146 hb166 => ?_)
               have gb146 := HB.out.gB hB; have ob1_b146 := oB qb1 hB; have ob2_b146 := oB qb2 hB; have ob3_b146 := oB qb3 hB; have og_b146 := oB qg hB
               have nhO144_b146 : ∀ g, v144.ownBlock = some g → g < B146 := fun g hg => by have := (World.ownsRow.lt hO144 g hg).2; omega
               have eb146 := eB hB; clear hB; clear qb1 qb2 qb3 qg; replace hO144 := Own.at hO144 hb166; revert HB; revert kg; revert kb3; revert kb2; revert kb1; refine uA hb166 ?_; clear hb166; intro kb1 qb1 kb2 qb2 kb3 qb3 kg qg HB; have qb146 := kb146.1
               have ab1 : v144.ownBlock ≠ some B1 := fun e => by have n0 := (World.ownsRow.lt hO144 B1 e).1; omega
               have ab2 : v144.ownBlock ≠ some B2 := fun e => by have n0 := (World.ownsRow.lt hO144 B2 e).1; omega
               have ab3 : v144.ownBlock ≠ some B3 := fun e => by have n0 := (World.ownsRow.lt hO144 B3 e).1; omega
               have ag : v144.ownBlock ≠ some g := fun e => by have n0 := (World.ownsRow.lt hO144 g e).1; omega
               have ab146 : v144.ownBlock ≠ some B146 := fun e => by have n0 := (World.ownsRow.lt hO144 B146 e).1; have n9 := nhO144_b146 B146 e; omega
               have hzz := HB.out.size; refine listF_step rfl (fun K' hK => ?_); refine opF_app (d := 147) rfl (by decide) (.tmp 144) (.tmp 146) _ rfl 3 i0 _ 8 Tryz.underlying22 hi0 hz0 hy0 hx0 rfl (by decide) (fun _ => rfl) int_one N141 v144 pr [x] (some ⟨B146, 0, none⟩) 1 (by go_simp) (by go_simp) hO144 (Cells.rd (f := int1) (m := 1) (l := [x]) (fun _ => rfl) kb146) (by unfold maxLen; simp; omega) (by simp; omega) (by omega) (fun v147 w167 hO' hG hV => hK _ _ ?_); clear hK K' hzz; clear qb1 qb2 qb3 qg qb146; replace kb1 := kb1.grown hG ab1; clear ab1; replace kb2 := kb2.grown hG ab2; clear ab2; replace kb3 := kb3.grown hG ab3; clear ab3; replace kg := kg.grown hG ag; clear ag; replace kb146 := kb146.grown hG ab146; clear ab146; replace HB := hid (HB.out.grown hG (fun k hk => .inl (by have := (World.ownsRow.lt hO144 k hk).1; omega))); clear hO144; have hO144 := hO'; clear hO' hG hV; clear nhO144_b146; have qb1 := kb1.1; have qb2 := kb2.1
               have qb3 := kb3.1; have qg := kg.1; have qb146 := kb146.1; obtain ⟨a147, c147, rfl, hr9, hnA⟩ := Own.slice (f := int1) (m := 1) (fun _ => rfl) hO144; clear hr9; refine pl ?_; have cb1 := clx kb1; have zb1 := kb1.2.2; refine pl ?_; refine sto kb1 ?_; clear kb1 cb1 zb1; intro w168 kb1 hb169; clear qb1 qb2 qb3 qg qb146; replace hO144 := Own.oldB hO144 hb169 XW3b; revert HB; revert kb146; revert kg; revert kb3; revert kb2; refine uO hb169 ?_; clear hb169; intro kb2 qb2 kb3 qb3 kg qg kb146 qb146 HB; have qb1 := kb1.1; clear sl4 sl140; refine lx [] ?_; clear sl1 sl2 sl6 sl7; intro s170 sl1 sl2 sl6 sl7
               refine lr ?_; intros
               refine P3 ?_
               have cb1 := clx kb1
               refine P3 ?_
               have zb1 := kb1.2.2; refine pl ?_; refine sto kb1 ?_; clear kb1 cb1 zb1; intro w171 kb1 hb172; clear qb1 qb2 qb3 qg qb146; replace hO144 := Own.oldB hO144 hb172 XW3b; revert HB; revert kb146; revert kg; revert kb3; revert kb2; refine uO hb172 ?_; clear hb172; intro kb2 qb2 kb3 qb3 kg qg kb146 qb146 HB; have qb1 := kb1.1; refine pl ?_; have cb1 := clx kb1; have zb1 := kb1.2.2; refine pl ?_; refine sto kb1 ?_; clear kb1 cb1 zb1; intro w173 kb1 hb174; clear qb1 qb2 qb3 qg qb146; replace hO144 := Own.oldB hO144 hb174 XW3b; revert HB; revert kb146; revert kg; revert kb3; revert kb2; refine uO hb174 ?_; clear hb174; intro kb2 qb2 kb3 qb3 kg qg kb146 qb146 HB; have qb1 := kb1.1; refine pl ?_; have cb1 := clx kb1; have zb1 := kb1.2.2; refine pl ?_; refine sto kb1 ?_; clear kb1 cb1 zb1; intro w175 kb1 hb176; clear qb1 qb2 qb3 qg qb146; replace hO144 := Own.oldB hO144 hb176 XW3b; revert HB; revert kb146; revert kg; revert kb3; revert kb2; refine uO hb176 ?_; clear hb176; intro kb2 qb2 kb3 qb3 kg qg kb146 qb146 HB; have qb1 := kb1.1; clear sl6 sl7; refine lx [] ?_; clear sl1 sl2; intro s177 sl1 sl2; refine lr ?_; intros; have cb1 := clx kb1; refine pl ?_; obtain ⟨cb2_0, cb2_1, cb2_2, cb2_3, cb2_4, cb2_5, cb2_6, cb2_7⟩ := cl8 kb2; have zb2 := kb2.2.2; refine pl ?_; refine sto kb2 ?_; clear kb2 cb1 cb2_0 cb2_1 cb2_2 cb2_3 cb2_4 cb2_5 cb2_6 cb2_7 zb2; intro w178 kb2 hb179; clear qb1 qb2 qb3 qg qb146; replace hO144 := Own.oldB hO144 hb179 XW3b; revert HB; revert kb146; revert kg; revert kb3; revert kb1; refine uO hb179 ?_; clear hb179; intro kb1 qb1 kb3 qb3 kg qg kb146 qb146 HB; have qb2 := kb2.1; clear sl1; refine lx [] ?_; clear sl2; intro s180 sl2; refine ln ?_; intros
               obtain ⟨cb2_0, cb2_1, cb2_2, cb2_3, cb2_4, cb2_5, cb2_6, cb2_7⟩ := cl8 kb2; refine XW3c ?_
               have eS : step4 s = ⟨st, tp, (tk : Int), pr ++ [x], u, n, dn + 1, wy⟩ := by rw [HS.out]; simp [storeO]
               exact ⟨⟨some ⟨g, 0, none⟩, c73, ta, tc, a147, c147⟩, by rw [eS] <;> (first | rfl | (simp; done)), by rw [eS]; exact ⟨Cells.rd (f := int1) (m := 1) (fun _ => rfl) kg, Rd.oldB HRt.out HB.out (by simp), (Own.rd' (f := int1) (m := 1) (fun _ => rfl) hO144 rfl)⟩, by rw [eS]; exact fun k hk h => ⟨fun _ b hb => by cases hb; show g ≠ k; omega, h.2.1, fun _ b hb => by have := hnA b hb; omega⟩, HB.out.toBelow⟩
              ·skip
               have g140 : ¬ op = 7 := by simpa using h140
               refine nr ?_; intros
               refine P3 ?_
               have cb1 := clx kb1
               refine P3 ?_
               have zb1 := kb1.2.2; refine pl ?_; refine sto kb1 ?_; clear kb1 cb1 cb3 zb1; intro w181 kb1 hb182; clear qb1 qb2 qb3 qg; revert HB; revert kg; revert kb3; revert kb2; refine uO hb182 ?_; clear hb182; intro kb2 qb2 kb3 qb3 kg qg HB; have qb1 := kb1.1; refine pl ?_; have cb1 := clx kb1; have zb1 := kb1.2.2; refine pl ?_; refine sto kb1 ?_; clear kb1 cb1 zb1; intro w183 kb1 hb184; clear qb1 qb2 qb3 qg; revert HB; revert kg; revert kb3; revert kb2; refine uO hb184 ?_; clear hb184; intro kb2 qb2 kb3 qb3 kg qg HB; have qb1 := kb1.1; refine pl ?_; have cb1 := clx kb1; have zb1 := kb1.2.2; refine pl ?_; refine sto kb1 ?_; clear kb1 cb1 zb1; intro w185 kb1 hb186; clear qb1 qb2 qb3 qg; revert HB; revert kg; revert kb3; revert kb2; refine uO hb186 ?_; clear hb186; intro kb2 qb2 kb3 qb3 kg qg HB; have qb1 := kb1.1; clear sl4 sl6 sl7 sl140; refine lx [] ?_; clear sl1 sl2; intro s187 sl1 sl2; refine lr ?_; intros; have cb1 := clx kb1; refine pl ?_; obtain ⟨cb2_0, cb2_1, cb2_2, cb2_3, cb2_4, cb2_5, cb2_6, cb2_7⟩ := cl8 kb2; have zb2 := kb2.2.2; refine pl ?_; refine sto kb2 ?_; clear kb2 cb1 cb2_0 cb2_1 cb2_2 cb2_3 cb2_4 cb2_5 cb2_6 cb2_7 zb2; intro w188 kb2 hb189; clear qb1 qb2 qb3 qg; revert HB; revert kg; revert kb3; revert kb1; refine uO hb189 ?_; clear hb189; intro kb1 qb1 kb3 qb3 kg qg HB; have qb2 := kb2.1; clear sl1; refine lx [] ?_; clear sl2; intro s190 sl2; refine ln ?_; intros
               obtain ⟨cb2_0, cb2_1, cb2_2, cb2_3, cb2_4, cb2_5, cb2_6, cb2_7⟩ := cl8 kb2; refine XW3c ?_
               have eS : step4 s = ⟨st, tp, (tk : Int), pr, u, n, dn + 1, wy⟩ := by rw [HS.out]; simp [storeO, g77, g86, g98, g111, g122, g140]
               exact ⟨⟨some ⟨g, 0, none⟩, c73, ta, tc, qa, qc⟩, by rw [eS] <;> (first | rfl | (simp; done)), by rw [eS]; exact ⟨Cells.rd (f := int1) (m := 1) (fun _ => rfl) kg, Rd.oldB HRt.out HB.out (by simp), (Rd.oldB HRp.out HB.out (by simp))⟩, by rw [eS]; exact fun k hk h => ⟨fun _ b hb => by cases hb; show g ≠ k; omega, h.2.1, h.2.2⟩, HB.out.toBelow⟩
  case dep3 => exact dA
 case dep2 => exact dA


theorem rstep_any (s : St4) (A : SA) (w : World) (hR : RdSt w s A) (hO : OkI s) :
    Calls Tryz.prog 85 #[.agg #[.slice A.sa s.store.length A.sc, .slice A.ta s.tape.length A.tc, .int .i64 s.taken, .slice A.pa s.printed.length A.pc, .int .i64 s.time, .int .i64 s.pc, .int .i64 s.done, .int .i64 s.why]] w (fun e w' => ∃ A' : SA, e = .returned (.agg #[.slice A'.sa (step4 s).store.length A'.sc, .slice A'.ta (step4 s).tape.length A'.tc, .int .i64 (step4 s).taken, .slice A'.pa (step4 s).printed.length A'.pc, .int .i64 (step4 s).time, .int .i64 (step4 s).pc, .int .i64 (step4 s).done, .int .i64 (step4 s).why]) ∧ RdSt w' (step4 s) A' ∧ Kept w.heap.size s A (step4 s) A' ∧ Below w.heap.size w w') := by
  obtain ⟨sa, sc, ta, tc, pa, pc⟩ := A; have hl := hO.l0; obtain ⟨bs, os, hsa, -, -⟩ := RdInts.ne hR.st (k := 0) (by omega)
  simp only at hsa
  subst hsa; obtain ⟨⟨o1, o2⟩, ⟨o3, o4⟩, ⟨o5, o6⟩, o7, o8⟩ := hO.ord; have hfx := hO.fr; have hty := hO.tt; have hu := untilO_gt (orderOf s) s.time (decide (signI (frOf s) < 0)); obtain ⟨p, hp⟩ := Int.eq_ofNat_of_zero_le hO.pc.1; obtain ⟨tk, htk⟩ := Int.eq_ofNat_of_zero_le hO.tk.1; obtain ⟨f, hf⟩ := Int.eq_ofNat_of_zero_le o3; obtain ⟨t, ht⟩ := Int.eq_ofNat_of_zero_le o5; have hpc := hO.pc; have htk2 := hO.tk
  have hord : orderOf s = ⟨(orderOf s).op, (f : Int), (t : Int), (orderOf s).nx⟩ := by rw [← hf, ← ht]
  have hv := hO.w0 _ (getD_in (l := s.store) (i := s.pc.toNat) (d := 0) (by omega))
  have h := rstep_v s s.store s.tape s.printed tk p f t s.time s.done s.why (orderOf s).op (orderOf s).nx (s.store.getD s.pc.toNat 0) (frOf s) (ttOf s) (nextO (orderOf s) (decide (signI (frOf s) < 0))) (untilO (orderOf s) s.time (decide (signI (frOf s) < 0))) bs os sc tc pc ta pa w
    hord hv hfx hty (hid hl) (by omega) (by omega) (by omega) hO.l1 hO.l2 (by omega) ⟨o1, o2⟩ ⟨o7, o8⟩ hO.tm hO.dn ⟨hu.1, hu.2.1⟩ (by rw [← hord]) (by rw [← hord]) (by rw [hp]; rfl) (by unfold frOf; rw [hf]; rfl) (by unfold ttOf; rw [ht]; rfl) hR.st hR.tp hR.pr
    (fun h0 => step_why (k := 1) (by unfold whyOf; rw [if_pos h0]) (by decide) hp htk)
    (fun h0 h1 => step_why (k := 2) (by unfold whyOf; rw [if_neg h0, if_pos ⟨h1.1, by omega⟩]) (by decide) hp htk)
    (fun h0 h1 h2 => step_why (k := 3) (by unfold whyOf; rw [if_neg h0, if_neg (fun g => h1 ⟨g.1, by omega⟩), if_pos h2]) (by decide) hp htk)
    (fun h0 h1 h2 h3 => step_why (k := 4) (by unfold whyOf; rw [if_neg h0, if_neg (fun g => h1 ⟨g.1, by omega⟩), if_neg h2, if_pos h3]) (by decide) hp htk)
    (fun h0 h1 h2 h3 => by
      have hw : whyOf s = 0 := by unfold whyOf; rw [if_neg h0, if_neg (fun g => h1 ⟨g.1, by omega⟩), if_neg h2, if_neg h3]
      rw [← hord, ← htk, ← hp]; unfold step4
      rw [if_neg (by omega)])
  rw [← htk, ← hp] at h; exact h

end Go.Proofs.YtleknidlgmmgbaaGreat
