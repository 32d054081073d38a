/- The program's order: step. -/
import Derived.Test.YtleknidlgmmgbaaGreattsW14
import Derived.Test.YtleknidlgmmgbaaGreattsCZ
set_option linter.all false
set_option maxRecDepth 100000
set_option maxHeartbeats 32000000
namespace Go.Proofs.YtleknidlgmmgbaaGreat

open Go.RowKit


def KeepL (av : List Nat) (w w' : World) : Prop := ∀ k ∈ av, w'.heap[k]? = w.heap[k]?
theorem odec_v (v op nx : Int) (f t : Nat) (w : World) (hd : decodeO v = ⟨op, f, t, nx⟩) (hv : 0 ≤ v ∧ v ≤ 16777215) :
    Calls Tryz.prog 83 #[.int .i64 v] w (fun e w' => e = .returned (.agg #[.int .i64 op, .int .i64 (f : Int), .int .i64 (t : Int), .int .i64 nx]) ∧ Below w.heap.size w w') := by
  have := odecode_any v w hv; rw [hd] at this; exact this
theorem owhen_v (op fr tt nx t n u : Int) (neg : Bool) (w : World) (ht : 0 ≤ t ∧ t ≤ 1000000000) (ho : (0 ≤ op ∧ op ≤ 7) ∧ (0 ≤ fr ∧ fr ≤ 127) ∧ (0 ≤ tt ∧ tt ≤ 127) ∧ (0 ≤ nx ∧ nx ≤ 127)) (hn : nextO ⟨op, fr, tt, nx⟩ neg = n) (hu : untilO ⟨op, fr, tt, nx⟩ t neg = u) :
    Calls Tryz.prog 117 #[.agg #[.int .i64 op, .int .i64 fr, .int .i64 tt, .int .i64 nx], .int .i64 t, .bool neg] w (fun e w' => e = .returned (.tuple #[.int .i64 n, .int .i64 u]) ∧ Below w.heap.size w w') := by
  have := owhen_any ⟨op, fr, tt, nx⟩ t neg w ht ho; rw [hn, hu] at this; exact this

theorem ostep1_any (w : World) :
    Calls Tryz.prog 120 #[] w (fun e w' => e = .returned (.tuple #[]) ∧ w = w') := by
 refine enter_F Tryz.func120 rfl Tryz.ntmps120 (by simp) ?_
 intro _ hs; clear hs; have HB := hid (OldB.refl [] w)
 refine zx ?_; intros
 refine norm_F _ (res_none Tryz.results120) ?_; exact ⟨rfl, rfl⟩

theorem XW15b {A : Prop} (e : A := by exact (fun g hg hm => by have a1 := Hpv.out; have a2 := Hpg.out; rw [hg] at a1 a2; simp at a1 a2 hm <;> omega)) : A := e
theorem XW15c {A : Prop} (e : A := by exact (fun hl b hb hm => by obtain ⟨_, h1, h2, _⟩ := Htb.out hl b hb; simp at hm <;> omega)) : A := e
theorem XW15d {A : Prop} (e : A := by exact (fun hm => by have h9 := (Hav.out k hk).2; rcases List.mem_cons.1 hm with h | h; exact h9.1 h; rcases List.mem_cons.1 h with h | h; exact h9.2.1 h; simp at h; exact h9.2.2.1 h)) : A := e
theorem XW15e {A : Prop} (e : A := by exact (fun b hb => by rcases List.mem_cons.1 hb with h | h; omega; rcases List.mem_cons.1 h with h | h; omega; simp at h; exact (World.ownsRow.lt HP0.out b h).1)) : A := e
theorem XW15f {A : Prop} (e : A := by exact (fun g hg hm => by have a1 := hv2.out; have a2 := hg2.out; rw [hg] at a1 a2; simp at a1 a2 hm <;> omega)) : A := e
theorem XW15g {A B1 : Prop} (hX1 : B1) (e : B1 → A := by intro hX1; exact ⟨rfl, hX1, HB.out.lowN hNw XW15e, fun k hk => HB.out.block k (Hav.out k hk).1 XW15d⟩) : A := e hX1
theorem XW15h {A : Prop} (e : A := by exact ⟨G, sc, ta, tc, qa, qc, hNV, hNG, nVG, kV, kG, hP, Hpv.out, Hpg.out, hRt, fun hl b hb => Htb.out hl b hb, fun k hk => (Hav.out k hk).2⟩) : A := e
theorem ostep_v (s : St4) (av : List Nat) (N V G sc : Nat) (ta : Option Addr) (tc : Nat) (qa : Option Addr) (qc : Nat) (st tp pr : List Int) (tk p f t : Nat) (tm dn op nx v x y n u : Int) (o0 : Ord) (w : World) (hdv : decodeO v = ⟨op, f, t, nx⟩) (hv : 0 ≤ v ∧ v ≤ 16777215) (hxb : 0 ≤ x ∧ x ≤ 16777215) (hyb : 0 ≤ y ∧ y ≤ 16777215) (hst : Hid (st.length = 128)) (hp : p < 128) (hf : f < 128) (ht : t < 128) (htp200 : tp.length ≤ 200) (hpr : pr.length ≤ 200) (htk : tk ≤ tp.length) (hop : 0 ≤ op ∧ op ≤ 7) (hnx : 0 ≤ nx ∧ nx ≤ 127) (htm : 0 ≤ tm ∧ tm ≤ 1000000000) (hdn : 0 ≤ dn ∧ dn ≤ tm) (hun : tm < u ∧ u ≤ tm + 80) (hn : nextO ⟨op, f, t, nx⟩ (decide (signI x < 0)) = n) (hu : untilO ⟨op, f, t, nx⟩ tm (decide (signI x < 0)) = u) (hvp : st.getD p 0 = v) (hx : st.getD f 0 = x) (hy : st.getD t 0 = y) (hV : Cells w V (mC (some ⟨G, 0, none⟩) st.length sc ta tp.length tc (tk : Int) qa pr.length qc tm (p : Int) dn 0 o0.op o0.fr o0.tt o0.nx)) (hVG : V ≠ G) (hG : Cells w G (st.flatMap int1)) (hP : Own int1 1 3 N w (Value.slice qa pr.length qc) pr) (hpv : (Value.slice qa pr.length qc).ownBlock ≠ some V) (hpg : (Value.slice qa pr.length qc).ownBlock ≠ some G) (hNV : N ≤ V) (hNG : N ≤ G) (hNw : N ≤ w.heap.size) (hRt : RdInts w ta tp) (htb : tp ≠ [] → ∀ b, ta = some b → N ≤ b.block ∧ b.block ≠ V ∧ b.block ≠ G ∧ (Value.slice qa pr.length qc).ownBlock ≠ some b.block) (hav : ∀ k ∈ av, k < w.heap.size ∧ k ≠ V ∧ k ≠ G ∧ (Value.slice qa pr.length qc).ownBlock ≠ some k ∧ (tp ≠ [] → ∀ b, ta = some b → b.block ≠ k)) (h1 : op = 0 → step4 s = ⟨st, tp, (tk : Int), pr, tm, (p : Int), dn, 1⟩) (h2 : ¬ op = 0 → (op = 6 ∧ tk = tp.length) → step4 s = ⟨st, tp, (tk : Int), pr, tm, (p : Int), dn, 2⟩) (h3 : ¬ op = 0 → ¬ (op = 6 ∧ tk = tp.length) → (op = 7 ∧ pr.length = 200) → step4 s = ⟨st, tp, (tk : Int), pr, tm, (p : Int), dn, 3⟩) (h4 : ¬ op = 0 → ¬ (op = 6 ∧ tk = tp.length) → ¬ (op = 7 ∧ pr.length = 200) → 1000000000 < u → step4 s = ⟨st, tp, (tk : Int), pr, tm, (p : Int), dn, 4⟩) (h5 : ¬ op = 0 → ¬ (op = 6 ∧ tk = tp.length) → ¬ (op = 7 ∧ pr.length = 200) → ¬ 1000000000 < u → step4 s = ⟨storeO ⟨st, tp, (tk : Int), pr, tm, (p : Int), dn, 0⟩ ⟨op, f, t, nx⟩ x y, tp, if op = 6 then (tk : Int) + 1 else tk, if op = 7 then pr ++ [x] else pr, u, n, dn + 1, 0⟩) :
    Calls Tryz.prog 101 #[.pointer (some ⟨V, 0, none⟩)] w (fun e w' => e = .returned (.tuple #[]) ∧ OM N av w' V (step4 s) ⟨op, f, t, nx⟩ ∧ Below N w w' ∧ KeepL av w w') := by
 have HP0 := hid hP; have hmf := hmf; have Hdv := hid hdv; have Hn := hid hn; have Hu := hid hu; have Hvp := hid hvp; have Hx := hid hx; have Hy := hid hy; have Hpv := hid hpv; have Hpg := hid hpg; have Htb := hid htb; have Hav := hid hav; have H1 := hid h1; have H2 := hid h2; have H3 := hid h3; have H4 := hid h4; have H5 := hid h5; clear hdv hn hu hvp hx hy hpv hpg htb hav h1 h2 h3 h4 h5; have nVG : ¬ V = G := hVG
 have nGV : ¬ G = V := fun e => hVG e.symm
 have wdn : IntKind.i64.wrap (dn + 1) = dn + 1 := IntWalk.i64_in _ (by omega)
 have lp : p < st.length := by rw [hst.out]; exact hp
 have lf : f < st.length := by rw [hst.out]; exact hf
 have lt : t < st.length := by rw [hst.out]; exact ht
 have hst2 : st.length ≤ 128 := by rw [hst.out]; omega
 have ip : (p : Int) < st.length := by omega
 have if' : (f : Int) < st.length := by omega
 have it : (t : Int) < st.length := by omega
 have kV := hV; have kG := hG
 refine enter_F Tryz.func101 rfl Tryz.ntmps101 (by simp) ?_
 intro s0 hs; have sl0 : s0 0 = .pointer (some ⟨V, 0, none⟩) := hs 0 (by simp); clear hs; have HB := hid (OldB.refl (V :: G :: (Value.slice qa pr.length qc).ownBlock.toList) w); have qV := kV.1; have qG := kG.1
 refine zx ?_; intros
 have cgp := ints_cell kG lp; rw [← getD_get lp 0, Hvp.out] at cgp; have cV := clx kV; refine rgQ 14 [?_,?_,?_,?_,?_,?_,?_,?_,?_,?_,?_,?_,?_,?_] ?walk11 ?dep11
 case walk11 =>
  iterate 13 refine rq ?_
  refine walkR_q (by rfl) (fun X hX wq hwq hrq => ?_) ?_
  · obtain ⟨hcq, hfq⟩ := hwq.b0
    clear hrq; go_simp
    (with_reducible exact (odec_v v op nx f t _ Hdv.out hv))
  refine walkR_nil (fun X hX w1 hwz hcz => ?_); clear hX hcz
  (try clear X)
  skip; have hb2 := hwz.unDrew; clear hwz; clear cV; clear qV qG; replace hP := Own.oldB hP hb2 XW15b; replace hRt := Rd.oldN hRt hb2 XW15c; revert HB; revert kG; revert kV; refine uO hb2 ?_; clear hb2; intro kV qV kG qG HB; clear cgp; refine P2 ?_; have cV := clx kV; have zV := kV.2.2; refine pl ?_; refine sto kV ?_; clear kV cV zV; intro w3 kV hb4; clear qV qG; replace hP := Own.oldB hP hb4 XW15b; replace hRt := Rd.oldN hRt hb4 XW15c; revert HB; revert kG; refine uO hb4 ?_; clear hb4; intro kG qG HB; have qV := kV.1; refine lx [] ?_; clear sl0; intro s5 sl0; refine ln ?_; intros
  have cgf := ints_cell kG lf; rw [← getD_get lf 0, Hx.out] at cgf; have cV := clx kV; refine rgQ 20 [?_,?_,?_,?_,?_,?_,?_,?_,?_,?_,?_,?_,?_,?_,?_,?_,?_,?_,?_,?_] ?walk12 ?dep12
  case walk12 =>
   iterate 10 refine rq ?_
   refine walkR_q (by rfl) (fun X hX wq hwq hrq => ?_) ?_
   · obtain ⟨hcq, hfq⟩ := hwq.b0
     clear hrq; go_simp
     (with_reducible exact (ofrom_any V G sc ta tp.length tc (tk : Int) qa pr.length qc tm (p : Int) dn 0 op nx f t st _ (kV.oldB hwq.unDrew (by simp)) hf hst))
   refine rq ?_; refine rq ?_; refine walkR_q (by rfl) (fun X hX wq hwq hrq => ?_) ?_
   · obtain ⟨hcq, hfq⟩ := hwq.b0
     clear hrq; go_simp
     (refine cB ?_; with_reducible exact (signed_any x _ hxb))
   refine rq ?_; refine walkR_q (by rfl) (fun X hX wq hwq hrq => ?_) ?_
   · obtain ⟨hcq, hfq⟩ := hwq.b0
     clear hrq; go_simp
     (with_reducible exact (owhen_v op f t nx tm n u (decide (signI x < 0)) _ htm ⟨hop, ⟨by omega, by omega⟩, ⟨by omega, by omega⟩, hnx⟩ Hn.out Hu.out))
   iterate 4 refine rq ?_
   refine walkR_nil (fun X hX w6 hwz hcz => ?_); clear hX hcz
   (try clear X)
   skip; have hb7 := hwz.unDrew; clear hwz; clear cV; clear qV qG; replace hP := Own.oldB hP hb7 XW15b; replace hRt := Rd.oldN hRt hb7 XW15c; revert HB; revert kG; revert kV; refine uO hb7 ?_; clear hb7; intro kV qV kG qG HB; clear cgf; refine pl ?_; refine lx [2,3] ?_; clear sl0; intro s8 sl0 sl2 sl3; refine lr ?_; intros; refine pl ?_; refine lx [4] ?_; clear sl0 sl2 sl3; intro s9 sl0 sl2 sl3 sl4; refine lr ?_; intros
   refine P4 ?_
   have cV := clx kV; refine pl ?_; refine lx [44] ?_; clear sl0 sl2 sl3 sl4; intro s10 sl0 sl2 sl3 sl4 sl44; refine lr ?_; intros; refine P2 ?_; refine lx [45] ?_; clear sl0 sl2 sl3 sl4 sl44; intro s11 sl0 sl2 sl3 sl4 sl44 sl45; refine ln ?_; intros
   refine cond_E sl45 (by decide) ?_ ?_ <;> (clear sl45; intro h45 sl45)
   ·skip
    have He := hid (show op = 0 by simpa using h45); have HS := hid (H1.out He.out); clear h45
    refine nr ?_; intros
    refine P4 ?_
    have zV := kV.2.2; refine pl ?_; refine sto kV ?_; clear kV cV zV; intro w12 kV hb13; clear qV qG; replace hP := Own.oldB hP hb13 XW15b; replace hRt := Rd.oldN hRt hb13 XW15c; revert HB; revert kG; refine uO hb13 ?_; clear hb13; intro kG qG HB; have qV := kV.1; clear sl44 sl45; refine lx [] ?_; clear sl0 sl2 sl3 sl4; intro s14 sl0 sl2 sl3 sl4; refine lr ?_; intros
    refine P4 ?_
    have cV := clx kV
    refine P3 ?_
    refine F2 ?_; refine pl ?_; refine lx [111] ?_; clear sl0 sl2 sl3 sl4; intro s15 sl0 sl2 sl3 sl4 sl111; refine ln ?_; intros
    refine cond_f ?_
    refine nr ?_; intros
    refine P6 ?_
    clear sl111; refine lx [121] ?_; clear sl0 sl2 sl3 sl4; intro s16 sl0 sl2 sl3 sl4 sl121; refine ln ?_; intros
    refine cond_f ?_
    refine zx ?_; intros
    refine norm_F _ (res_none Tryz.results101) ?_; refine XW15g ?_; rw [HS.out]; exact XW15h
   ·skip
    have G0 := hid (show ¬ op = 0 by simpa using h45); clear h45
    refine nr ?_; intros; refine P2 ?_; clear sl45; refine lx [51] ?_; clear sl0 sl2 sl3 sl4 sl44; intro s17 sl0 sl2 sl3 sl4 sl44 sl51; refine ln ?_; intros
    refine cond_E sl51 (by decide) ?_ ?_ <;> (clear sl51; intro h51 sl51)
    ·skip
     have He := hid (show op = 1 by simpa using h51); clear h51; have G6 := hid (show ¬ (op = 6 ∧ tk = tp.length) by have e := He.out; omega); have G7 := hid (show ¬ (op = 7 ∧ pr.length = 200) by have e := He.out; omega)
     refine nr ?_; intros
     refine P3 ?_
     clear sl4 sl44 sl51; refine lx [4] ?_; clear sl0 sl2 sl3; intro s18 sl0 sl2 sl3 sl4; refine lr ?_; intros
     refine P7 ?_
     refine py ?_; refine py ?_; refine pl ?_; refine lx [111] ?_; clear sl0 sl2 sl3 sl4; intro s19 sl0 sl2 sl3 sl4 sl111; refine ln ?_; intros
     refine cond_E sl111 (by decide) ?_ ?_ <;> (clear sl111; intro h111 sl111)
     ·skip
      have HS := hid (H4.out G0.out G6.out G7.out (by simpa using h111)); clear h111
      refine nr ?_; intros
      refine P4 ?_
      have zV := kV.2.2; refine pl ?_; refine sto kV ?_; clear kV cV zV; intro w20 kV hb21; clear qV qG; replace hP := Own.oldB hP hb21 XW15b; replace hRt := Rd.oldN hRt hb21 XW15c; revert HB; revert kG; refine uO hb21 ?_; clear hb21; intro kG qG HB; have qV := kV.1; clear sl111; refine lx [] ?_; clear sl0 sl2 sl3 sl4; intro s22 sl0 sl2 sl3 sl4; refine lr ?_; intros
      refine P4 ?_
      have cV := clx kV; refine P2 ?_; refine lx [121] ?_; clear sl0 sl2 sl3 sl4; intro s23 sl0 sl2 sl3 sl4 sl121; refine ln ?_; intros
      refine cond_f ?_
      refine zx ?_; intros
      refine norm_F _ (res_none Tryz.results101) ?_; refine XW15g ?_; rw [HS.out]; exact XW15h
     ·skip
      have HS := hid (H5.out G0.out G6.out G7.out (by simpa using h111)); clear h111
      refine nr ?_; intros
      refine P6 ?_
      clear sl111; refine lx [121] ?_; clear sl0 sl2 sl3 sl4; intro s24 sl0 sl2 sl3 sl4 sl121; refine ln ?_; intros
      refine cond_t ?_
      refine nr ?_; intros; refine pl ?_; refine cal (omove_any V G sc ta tp.length tc (tk : Int) qa pr.length qc tm (p : Int) dn 0 op nx f t st _ kV nVG kG hst hf ht x y Hx.out Hy.out hxb hyb) ?_; rintro e w25 ⟨rfl, kV', kG', hb26⟩; replace hb26 := OldB.subset (Cs := [V, G]) hb26 (by simp); refine ⟨_, rfl, ?_⟩; clear cV; clear qV qG; replace kV := kV'; replace kG := kG'; replace hP := Own.oldB hP hb26 XW15b; replace hRt := Rd.oldN hRt hb26 XW15c; replace HB := mO HB hb26; clear hb26; have qV := kV.1; have qG := kG.1; clear sl4 sl121; refine lx [] ?_; clear sl0 sl2 sl3; intro s27 sl0 sl2 sl3
      refine lr ?_; intros
      refine P9 ?_
      have cV := clx kV
      refine P5 ?_
      have zV := kV.2.2; refine pl ?_; refine sto kV ?_; clear kV cV zV; intro w28 kV hb29; clear qV qG; replace hP := Own.oldB hP hb29 XW15b; replace hRt := Rd.oldN hRt hb29 XW15c; revert HB; revert kG; refine uO hb29 ?_; clear hb29; intro kG qG HB; have qV := kV.1
      refine P3 ?_
      have cV := clx kV; have zV := kV.2.2; refine pl ?_; refine sto kV ?_; clear kV cV zV; intro w30 kV hb31; clear qV qG; replace hP := Own.oldB hP hb31 XW15b; replace hRt := Rd.oldN hRt hb31 XW15c; revert HB; revert kG; refine uO hb31 ?_; clear hb31; intro kG qG HB; have qV := kV.1
      refine P3 ?_
      have cV := clx kV; have zV := kV.2.2; refine pl ?_; refine sto kV ?_; clear kV cV zV; intro w32 kV hb33; clear qV qG; replace hP := Own.oldB hP hb33 XW15b; replace hRt := Rd.oldN hRt hb33 XW15c; revert HB; revert kG; refine uO hb33 ?_; clear hb33; intro kG qG HB; have qV := kV.1; clear sl0 sl2 sl3; refine lx [] ?_; intro s34; refine ln ?_; intros
      refine norm_F _ (res_none Tryz.results101) ?_
      have eS : step4 s = ⟨st.set t (x), tp, (tk : Int), pr, u, n, dn + 1, 0⟩ := by rw [HS.out]; simp [storeO, He.out]
      refine XW15g ?_; rw [eS]; exact ⟨G, sc, ta, tc, qa, qc, hNV, hNG, nVG, (by have hz := kV; rw [show st.length = (st.set t (x)).length from (List.length_set ..).symm] at hz; exact hz), kG, hP, Hpv.out, Hpg.out, hRt, fun hl b hb => Htb.out hl b hb, fun k hk => (Hav.out k hk).2⟩
    ·skip
     have g51 : ¬ op = 1 := by simpa using h51
     clear h51
     refine nr ?_; intros; refine P2 ?_; clear sl51; refine lx [55] ?_; clear sl0 sl2 sl3 sl4 sl44; intro s35 sl0 sl2 sl3 sl4 sl44 sl55; refine ln ?_; intros
     refine cond_E sl55 (by decide) ?_ ?_ <;> (clear sl55; intro h55 sl55)
     ·skip
      have He := hid (show op = 2 by simpa using h55); clear h55; have G6 := hid (show ¬ (op = 6 ∧ tk = tp.length) by have e := He.out; omega); have G7 := hid (show ¬ (op = 7 ∧ pr.length = 200) by have e := He.out; omega)
      refine nr ?_; intros
      refine P3 ?_
      clear sl4 sl44 sl55; refine lx [4] ?_; clear sl0 sl2 sl3; intro s36 sl0 sl2 sl3 sl4; refine lr ?_; intros
      refine P7 ?_
      refine py ?_; refine py ?_; refine pl ?_; refine lx [111] ?_; clear sl0 sl2 sl3 sl4; intro s37 sl0 sl2 sl3 sl4 sl111; refine ln ?_; intros
      refine cond_E sl111 (by decide) ?_ ?_ <;> (clear sl111; intro h111 sl111)
      ·skip
       have HS := hid (H4.out G0.out G6.out G7.out (by simpa using h111)); clear h111
       refine nr ?_; intros
       refine P4 ?_
       have zV := kV.2.2; refine pl ?_; refine sto kV ?_; clear kV cV zV; intro w38 kV hb39; clear qV qG; replace hP := Own.oldB hP hb39 XW15b; replace hRt := Rd.oldN hRt hb39 XW15c; revert HB; revert kG; refine uO hb39 ?_; clear hb39; intro kG qG HB; have qV := kV.1; clear sl111; refine lx [] ?_; clear sl0 sl2 sl3 sl4; intro s40 sl0 sl2 sl3 sl4; refine lr ?_; intros
       refine P4 ?_
       have cV := clx kV; refine P2 ?_; refine lx [121] ?_; clear sl0 sl2 sl3 sl4; intro s41 sl0 sl2 sl3 sl4 sl121; refine ln ?_; intros
       refine cond_f ?_
       refine zx ?_; intros
       refine norm_F _ (res_none Tryz.results101) ?_; refine XW15g ?_; rw [HS.out]; exact XW15h
      ·skip
       have HS := hid (H5.out G0.out G6.out G7.out (by simpa using h111)); clear h111
       refine nr ?_; intros
       refine P6 ?_
       clear sl111; refine lx [121] ?_; clear sl0 sl2 sl3 sl4; intro s42 sl0 sl2 sl3 sl4 sl121; refine ln ?_; intros
       refine cond_t ?_
       refine nr ?_; intros; refine pl ?_; refine cal (oadd_any V G sc ta tp.length tc (tk : Int) qa pr.length qc tm (p : Int) dn 0 op nx f t st _ kV nVG kG hst hf ht x y Hx.out Hy.out hxb hyb) ?_; rintro e w43 ⟨rfl, kV', kG', hb44⟩; replace hb44 := OldB.subset (Cs := [V, G]) hb44 (by simp); refine ⟨_, rfl, ?_⟩; clear cV; clear qV qG; replace kV := kV'; replace kG := kG'; replace hP := Own.oldB hP hb44 XW15b; replace hRt := Rd.oldN hRt hb44 XW15c; replace HB := mO HB hb44; clear hb44; have qV := kV.1; have qG := kG.1; clear sl4 sl121; refine lx [] ?_; clear sl0 sl2 sl3; intro s45 sl0 sl2 sl3
       refine lr ?_; intros
       refine P9 ?_
       have cV := clx kV
       refine P5 ?_
       have zV := kV.2.2; refine pl ?_; refine sto kV ?_; clear kV cV zV; intro w46 kV hb47; clear qV qG; replace hP := Own.oldB hP hb47 XW15b; replace hRt := Rd.oldN hRt hb47 XW15c; revert HB; revert kG; refine uO hb47 ?_; clear hb47; intro kG qG HB; have qV := kV.1
       refine P3 ?_
       have cV := clx kV; have zV := kV.2.2; refine pl ?_; refine sto kV ?_; clear kV cV zV; intro w48 kV hb49; clear qV qG; replace hP := Own.oldB hP hb49 XW15b; replace hRt := Rd.oldN hRt hb49 XW15c; revert HB; revert kG; refine uO hb49 ?_; clear hb49; intro kG qG HB; have qV := kV.1
       refine P3 ?_
       have cV := clx kV; have zV := kV.2.2; refine pl ?_; refine sto kV ?_; clear kV cV zV; intro w50 kV hb51; clear qV qG; replace hP := Own.oldB hP hb51 XW15b; replace hRt := Rd.oldN hRt hb51 XW15c; revert HB; revert kG; refine uO hb51 ?_; clear hb51; intro kG qG HB; have qV := kV.1; clear sl0 sl2 sl3; refine lx [] ?_; intro s52; refine ln ?_; intros
       refine norm_F _ (res_none Tryz.results101) ?_
       have eS : step4 s = ⟨st.set t ((x + y) % 16777216), tp, (tk : Int), pr, u, n, dn + 1, 0⟩ := by rw [HS.out]; simp [storeO, He.out]
       refine XW15g ?_; rw [eS]; exact ⟨G, sc, ta, tc, qa, qc, hNV, hNG, nVG, (by have hz := kV; rw [show st.length = (st.set t ((x + y) % 16777216)).length from (List.length_set ..).symm] at hz; exact hz), kG, hP, Hpv.out, Hpg.out, hRt, fun hl b hb => Htb.out hl b hb, fun k hk => (Hav.out k hk).2⟩
     ·skip
      have g55 : ¬ op = 2 := by simpa using h55
      clear h55
      refine nr ?_; intros; refine P2 ?_; clear sl55; refine lx [59] ?_; clear sl0 sl2 sl3 sl4 sl44; intro s53 sl0 sl2 sl3 sl4 sl44 sl59; refine ln ?_; intros
      refine cond_E sl59 (by decide) ?_ ?_ <;> (clear sl59; intro h59 sl59)
      ·skip
       have He := hid (show op = 3 by simpa using h59); clear h59; have G6 := hid (show ¬ (op = 6 ∧ tk = tp.length) by have e := He.out; omega); have G7 := hid (show ¬ (op = 7 ∧ pr.length = 200) by have e := He.out; omega)
       refine nr ?_; intros
       refine P3 ?_
       clear sl4 sl44 sl59; refine lx [4] ?_; clear sl0 sl2 sl3; intro s54 sl0 sl2 sl3 sl4; refine lr ?_; intros
       refine P7 ?_
       refine py ?_; refine py ?_; refine pl ?_; refine lx [111] ?_; clear sl0 sl2 sl3 sl4; intro s55 sl0 sl2 sl3 sl4 sl111; refine ln ?_; intros
       refine cond_E sl111 (by decide) ?_ ?_ <;> (clear sl111; intro h111 sl111)
       ·skip
        have HS := hid (H4.out G0.out G6.out G7.out (by simpa using h111)); clear h111
        refine nr ?_; intros
        refine P4 ?_
        have zV := kV.2.2; refine pl ?_; refine sto kV ?_; clear kV cV zV; intro w56 kV hb57; clear qV qG; replace hP := Own.oldB hP hb57 XW15b; replace hRt := Rd.oldN hRt hb57 XW15c; revert HB; revert kG; refine uO hb57 ?_; clear hb57; intro kG qG HB; have qV := kV.1; clear sl111; refine lx [] ?_; clear sl0 sl2 sl3 sl4; intro s58 sl0 sl2 sl3 sl4; refine lr ?_; intros
        refine P4 ?_
        have cV := clx kV; refine P2 ?_; refine lx [121] ?_; clear sl0 sl2 sl3 sl4; intro s59 sl0 sl2 sl3 sl4 sl121; refine ln ?_; intros
        refine cond_f ?_
        refine zx ?_; intros
        refine norm_F _ (res_none Tryz.results101) ?_; refine XW15g ?_; rw [HS.out]; exact XW15h
       ·skip
        have HS := hid (H5.out G0.out G6.out G7.out (by simpa using h111)); clear h111
        refine nr ?_; intros
        refine P6 ?_
        clear sl111; refine lx [121] ?_; clear sl0 sl2 sl3 sl4; intro s60 sl0 sl2 sl3 sl4 sl121; refine ln ?_; intros
        refine cond_t ?_
        refine nr ?_; intros; refine pl ?_; refine cal (osub_any V G sc ta tp.length tc (tk : Int) qa pr.length qc tm (p : Int) dn 0 op nx f t st _ kV nVG kG hst hf ht x y Hx.out Hy.out hxb hyb) ?_; rintro e w61 ⟨rfl, kV', kG', hb62⟩; replace hb62 := OldB.subset (Cs := [V, G]) hb62 (by simp); refine ⟨_, rfl, ?_⟩; clear cV; clear qV qG; replace kV := kV'; replace kG := kG'; replace hP := Own.oldB hP hb62 XW15b; replace hRt := Rd.oldN hRt hb62 XW15c; replace HB := mO HB hb62; clear hb62; have qV := kV.1; have qG := kG.1; clear sl4 sl121; refine lx [] ?_; clear sl0 sl2 sl3; intro s63 sl0 sl2 sl3
        refine lr ?_; intros
        refine P9 ?_
        have cV := clx kV
        refine P5 ?_
        have zV := kV.2.2; refine pl ?_; refine sto kV ?_; clear kV cV zV; intro w64 kV hb65; clear qV qG; replace hP := Own.oldB hP hb65 XW15b; replace hRt := Rd.oldN hRt hb65 XW15c; revert HB; revert kG; refine uO hb65 ?_; clear hb65; intro kG qG HB; have qV := kV.1
        refine P3 ?_
        have cV := clx kV; have zV := kV.2.2; refine pl ?_; refine sto kV ?_; clear kV cV zV; intro w66 kV hb67; clear qV qG; replace hP := Own.oldB hP hb67 XW15b; replace hRt := Rd.oldN hRt hb67 XW15c; revert HB; revert kG; refine uO hb67 ?_; clear hb67; intro kG qG HB; have qV := kV.1
        refine P3 ?_
        have cV := clx kV; have zV := kV.2.2; refine pl ?_; refine sto kV ?_; clear kV cV zV; intro w68 kV hb69; clear qV qG; replace hP := Own.oldB hP hb69 XW15b; replace hRt := Rd.oldN hRt hb69 XW15c; revert HB; revert kG; refine uO hb69 ?_; clear hb69; intro kG qG HB; have qV := kV.1; clear sl0 sl2 sl3; refine lx [] ?_; intro s70; refine ln ?_; intros
        refine norm_F _ (res_none Tryz.results101) ?_
        have eS : step4 s = ⟨st.set t ((y - x) % 16777216), tp, (tk : Int), pr, u, n, dn + 1, 0⟩ := by rw [HS.out]; simp [storeO, He.out]
        refine XW15g ?_; rw [eS]; exact ⟨G, sc, ta, tc, qa, qc, hNV, hNG, nVG, (by have hz := kV; rw [show st.length = (st.set t ((y - x) % 16777216)).length from (List.length_set ..).symm] at hz; exact hz), kG, hP, Hpv.out, Hpg.out, hRt, fun hl b hb => Htb.out hl b hb, fun k hk => (Hav.out k hk).2⟩
      ·skip
       have g59 : ¬ op = 3 := by simpa using h59
       clear h59
       refine nr ?_; intros; refine P2 ?_; clear sl59; refine lx [63] ?_; clear sl0 sl2 sl3 sl4 sl44; intro s71 sl0 sl2 sl3 sl4 sl44 sl63; refine ln ?_; intros
       refine cond_E sl63 (by decide) ?_ ?_ <;> (clear sl63; intro h63 sl63)
       ·skip
        have He := hid (show op = 4 by simpa using h63); clear h63; have G6 := hid (show ¬ (op = 6 ∧ tk = tp.length) by have e := He.out; omega); have G7 := hid (show ¬ (op = 7 ∧ pr.length = 200) by have e := He.out; omega)
        refine nr ?_; intros
        refine P3 ?_
        clear sl4 sl44 sl63; refine lx [4] ?_; clear sl0 sl2 sl3; intro s72 sl0 sl2 sl3 sl4; refine lr ?_; intros
        refine P7 ?_
        refine py ?_; refine py ?_; refine pl ?_; refine lx [111] ?_; clear sl0 sl2 sl3 sl4; intro s73 sl0 sl2 sl3 sl4 sl111; refine ln ?_; intros
        refine cond_E sl111 (by decide) ?_ ?_ <;> (clear sl111; intro h111 sl111)
        ·skip
         have HS := hid (H4.out G0.out G6.out G7.out (by simpa using h111)); clear h111
         refine nr ?_; intros
         refine P4 ?_
         have zV := kV.2.2; refine pl ?_; refine sto kV ?_; clear kV cV zV; intro w74 kV hb75; clear qV qG; replace hP := Own.oldB hP hb75 XW15b; replace hRt := Rd.oldN hRt hb75 XW15c; revert HB; revert kG; refine uO hb75 ?_; clear hb75; intro kG qG HB; have qV := kV.1; clear sl111; refine lx [] ?_; clear sl0 sl2 sl3 sl4; intro s76 sl0 sl2 sl3 sl4; refine lr ?_; intros
         refine P4 ?_
         have cV := clx kV; refine P2 ?_; refine lx [121] ?_; clear sl0 sl2 sl3 sl4; intro s77 sl0 sl2 sl3 sl4 sl121; refine ln ?_; intros
         refine cond_f ?_
         refine zx ?_; intros
         refine norm_F _ (res_none Tryz.results101) ?_; refine XW15g ?_; rw [HS.out]; exact XW15h
        ·skip
         have HS := hid (H5.out G0.out G6.out G7.out (by simpa using h111)); clear h111
         refine nr ?_; intros
         refine P6 ?_
         clear sl111; refine lx [121] ?_; clear sl0 sl2 sl3 sl4; intro s78 sl0 sl2 sl3 sl4 sl121; refine ln ?_; intros
         refine cond_t ?_
         refine nr ?_; intros; refine pl ?_; refine cal (omul_any V G sc ta tp.length tc (tk : Int) qa pr.length qc tm (p : Int) dn 0 op nx f t st _ kV nVG kG hst hf ht x y Hx.out Hy.out hxb hyb) ?_; rintro e w79 ⟨rfl, kV', kG', hb80⟩; replace hb80 := OldB.subset (Cs := [V, G]) hb80 (by simp); refine ⟨_, rfl, ?_⟩; clear cV; clear qV qG; replace kV := kV'; replace kG := kG'; replace hP := Own.oldB hP hb80 XW15b; replace hRt := Rd.oldN hRt hb80 XW15c; replace HB := mO HB hb80; clear hb80; have qV := kV.1; have qG := kG.1; clear sl4 sl121; refine lx [] ?_; clear sl0 sl2 sl3; intro s81 sl0 sl2 sl3
         refine lr ?_; intros
         refine P9 ?_
         have cV := clx kV
         refine P5 ?_
         have zV := kV.2.2; refine pl ?_; refine sto kV ?_; clear kV cV zV; intro w82 kV hb83; clear qV qG; replace hP := Own.oldB hP hb83 XW15b; replace hRt := Rd.oldN hRt hb83 XW15c; revert HB; revert kG; refine uO hb83 ?_; clear hb83; intro kG qG HB; have qV := kV.1
         refine P3 ?_
         have cV := clx kV; have zV := kV.2.2; refine pl ?_; refine sto kV ?_; clear kV cV zV; intro w84 kV hb85; clear qV qG; replace hP := Own.oldB hP hb85 XW15b; replace hRt := Rd.oldN hRt hb85 XW15c; revert HB; revert kG; refine uO hb85 ?_; clear hb85; intro kG qG HB; have qV := kV.1
         refine P3 ?_
         have cV := clx kV; have zV := kV.2.2; refine pl ?_; refine sto kV ?_; clear kV cV zV; intro w86 kV hb87; clear qV qG; replace hP := Own.oldB hP hb87 XW15b; replace hRt := Rd.oldN hRt hb87 XW15c; revert HB; revert kG; refine uO hb87 ?_; clear hb87; intro kG qG HB; have qV := kV.1; clear sl0 sl2 sl3; refine lx [] ?_; intro s88; refine ln ?_; intros
         refine norm_F _ (res_none Tryz.results101) ?_
         have eS : step4 s = ⟨st.set t (prodI x y), tp, (tk : Int), pr, u, n, dn + 1, 0⟩ := by rw [HS.out]; simp [storeO, He.out]
         refine XW15g ?_; rw [eS]; exact ⟨G, sc, ta, tc, qa, qc, hNV, hNG, nVG, (by have hz := kV; rw [show st.length = (st.set t (prodI x y)).length from (List.length_set ..).symm] at hz; exact hz), kG, hP, Hpv.out, Hpg.out, hRt, fun hl b hb => Htb.out hl b hb, fun k hk => (Hav.out k hk).2⟩
       ·skip
        have g63 : ¬ op = 4 := by simpa using h63
        clear h63
        refine nr ?_; intros; refine P2 ?_; clear sl63; refine lx [67] ?_; clear sl0 sl2 sl3 sl4 sl44; intro s89 sl0 sl2 sl3 sl4 sl44 sl67; refine ln ?_; intros
        refine cond_E sl67 (by decide) ?_ ?_ <;> (clear sl67; intro h67 sl67)
        ·skip
         have He := hid (show op = 6 by simpa using h67); clear h67; have G7 := hid (show ¬ (op = 7 ∧ pr.length = 200) by have e := He.out; omega)
         refine nr ?_; intros
         refine P3 ?_
         clear sl4 sl44 sl67; refine lx [4] ?_; clear sl0 sl2 sl3; intro s90 sl0 sl2 sl3 sl4; refine ln ?_; intros
         refine rgQ 11 [?_,?_,?_,?_,?_,?_,?_,?_,?_,?_,?_] ?walk13 ?dep13
         case walk13 =>
          iterate 11 refine rq ?_
          refine walkR_nil (fun X hX w91 hwz hcz => ?_); clear hX hcz
          (try clear X)
          skip; have hb92 := hwz.unDrew; clear hwz; clear cV; clear qV qG; replace hP := Own.oldB hP hb92 XW15b; replace hRt := Rd.oldN hRt hb92 XW15c; revert HB; revert kG; revert kV; refine uO hb92 ?_; clear hb92; intro kV qV kG qG HB; refine pl ?_; refine lx [82] ?_; clear sl0 sl2 sl3 sl4; intro s93 sl0 sl2 sl3 sl4 sl82; refine ln ?_; intros
          refine cond_E sl82 (by decide) ?_ ?_ <;> (clear sl82; intro h82 sl82)
          ·skip
           have HS := hid (H2.out G0.out ⟨He.out, by have h := h82; simp at h; omega⟩); clear h82
           refine nr ?_; intros
           refine P4 ?_
           have cV := clx kV; have zV := kV.2.2; refine pl ?_; refine sto kV ?_; clear kV cV zV; intro w94 kV hb95; clear qV qG; replace hP := Own.oldB hP hb95 XW15b; replace hRt := Rd.oldN hRt hb95 XW15c; revert HB; revert kG; refine uO hb95 ?_; clear hb95; intro kG qG HB; have qV := kV.1; clear sl82; refine lx [] ?_; clear sl0 sl2 sl3 sl4; intro s96 sl0 sl2 sl3 sl4; refine lr ?_; intros
           refine P4 ?_
           have cV := clx kV
           refine P3 ?_
           refine F2 ?_; refine pl ?_; refine lx [111] ?_; clear sl0 sl2 sl3 sl4; intro s97 sl0 sl2 sl3 sl4 sl111; refine ln ?_; intros
           refine cond_f ?_
           refine nr ?_; intros
           refine P6 ?_
           clear sl111; refine lx [121] ?_; clear sl0 sl2 sl3 sl4; intro s98 sl0 sl2 sl3 sl4 sl121; refine ln ?_; intros
           refine cond_f ?_
           refine zx ?_; intros
           refine norm_F _ (res_none Tryz.results101) ?_; refine XW15g ?_; rw [HS.out]; exact XW15h
          ·skip
           have G6 := hid (show ¬ (op = 6 ∧ tk = tp.length) by have h := h82; simp at h; omega)
           have htkl : tk < tp.length := by have h := h82; simp at h; omega
           clear h82
           refine nr ?_; intros
           refine P4 ?_
           have cV := clx kV
           refine P3 ?_
           refine py ?_; refine py ?_; refine pl ?_; clear sl82; refine lx [111] ?_; clear sl0 sl2 sl3 sl4; intro s99 sl0 sl2 sl3 sl4 sl111; refine ln ?_; intros
           refine cond_E sl111 (by decide) ?_ ?_ <;> (clear sl111; intro h111 sl111)
           ·skip
            have HS := hid (H4.out G0.out G6.out G7.out (by simpa using h111)); clear h111
            refine nr ?_; intros
            refine P4 ?_
            have zV := kV.2.2; refine pl ?_; refine sto kV ?_; clear kV cV zV; intro w100 kV hb101; clear qV qG; replace hP := Own.oldB hP hb101 XW15b; replace hRt := Rd.oldN hRt hb101 XW15c; revert HB; revert kG; refine uO hb101 ?_; clear hb101; intro kG qG HB; have qV := kV.1; clear sl111; refine lx [] ?_; clear sl0 sl2 sl3 sl4; intro s102 sl0 sl2 sl3 sl4; refine lr ?_; intros
            refine P4 ?_
            have cV := clx kV; refine P2 ?_; refine lx [121] ?_; clear sl0 sl2 sl3 sl4; intro s103 sl0 sl2 sl3 sl4 sl121; refine ln ?_; intros
            refine cond_f ?_
            refine zx ?_; intros
            refine norm_F _ (res_none Tryz.results101) ?_; refine XW15g ?_; rw [HS.out]; exact XW15h
           ·skip
            have HS := hid (H5.out G0.out G6.out G7.out (by simpa using h111)); clear h111
            refine nr ?_; intros
            refine P6 ?_
            clear sl111; refine lx [121] ?_; clear sl0 sl2 sl3 sl4; intro s104 sl0 sl2 sl3 sl4 sl121; refine ln ?_; intros
            refine cond_t ?_
            refine nr ?_; intros; refine pl ?_; obtain ⟨z, hz⟩ : ∃ z, tp.getD tk 0 = z := ⟨_, rfl⟩; have Hz := hid hz; clear hz; refine cal (oread_any V G sc ta tp.length tc tk qa pr.length qc tm (p : Int) dn 0 op nx f t st _ kV nVG kG hst tp rfl hf ht htkl htp200 z Hz.out hRt (fun b hb => ⟨(Htb.out (by intro e; rw [e] at htkl; simp at htkl) b hb).2.1, (Htb.out (by intro e; rw [e] at htkl; simp at htkl) b hb).2.2.1⟩)) ?_; rintro e w105 ⟨rfl, kV', kG', hb106⟩; refine ⟨_, rfl, ?_⟩; clear cV; clear qV qG; replace kV := kV'; replace kG := kG'; replace hP := Own.oldB hP hb106 XW15b; replace hRt := Rd.oldN hRt hb106 XW15c
            replace HB := mO HB hb106; clear hb106; have qV := kV.1; have qG := kG.1; clear sl4 sl121; refine lx [] ?_; clear sl0 sl2 sl3; intro s107 sl0 sl2 sl3; refine lr ?_; intros
            refine P9 ?_
            have cV := clx kV
            refine P5 ?_
            have zV := kV.2.2; refine pl ?_; refine sto kV ?_; clear kV cV zV; intro w108 kV hb109; clear qV qG; replace hP := Own.oldB hP hb109 XW15b; replace hRt := Rd.oldN hRt hb109 XW15c; revert HB; revert kG; refine uO hb109 ?_; clear hb109; intro kG qG HB; have qV := kV.1
            refine P3 ?_
            have cV := clx kV; have zV := kV.2.2; refine pl ?_; refine sto kV ?_; clear kV cV zV; intro w110 kV hb111; clear qV qG; replace hP := Own.oldB hP hb111 XW15b; replace hRt := Rd.oldN hRt hb111 XW15c; revert HB; revert kG; refine uO hb111 ?_; clear hb111; intro kG qG HB; have qV := kV.1
            refine P3 ?_
            have cV := clx kV; have zV := kV.2.2; refine pl ?_; refine sto kV ?_; clear kV cV zV; intro w112 kV hb113; clear qV qG; replace hP := Own.oldB hP hb113 XW15b; replace hRt := Rd.oldN hRt hb113 XW15c; revert HB; revert kG; refine uO hb113 ?_; clear hb113; intro kG qG HB; have qV := kV.1; clear sl0 sl2 sl3; refine lx [] ?_; intro s114; refine ln ?_; intros
            refine norm_F _ (res_none Tryz.results101) ?_
            have eS : step4 s = ⟨st.set t z, tp, (tk : Int) + 1, pr, u, n, dn + 1, 0⟩ := by rw [HS.out]; have hz9 := Hz.out; rw [List.getD_eq_getElem?_getD] at hz9; simp [storeO, He.out, hz9]
            refine XW15g ?_; rw [eS]; exact ⟨G, sc, ta, tc, qa, qc, hNV, hNG, nVG, (by have hz := kV; rw [show st.length = (st.set t z).length from (List.length_set ..).symm] at hz; exact hz), kG, hP, Hpv.out, Hpg.out, hRt, fun hl b hb => Htb.out hl b hb, fun k hk => (Hav.out k hk).2⟩
         case dep13 => exact dA
        ·skip
         have g67 : ¬ op = 6 := by simpa using h67
         clear h67
         refine nr ?_; intros; refine P2 ?_; clear sl44 sl67; refine lx [87] ?_; clear sl0 sl2 sl3 sl4; intro s115 sl0 sl2 sl3 sl4 sl87; refine ln ?_; intros
         refine cond_E sl87 (by decide) ?_ ?_ <;> (clear sl87; intro h87 sl87)
         ·skip
          have He := hid (show op = 7 by simpa using h87); clear h87; have G6 := hid (show ¬ (op = 6 ∧ tk = tp.length) by have e := He.out; omega)
          refine nr ?_; intros
          refine P3 ?_
          clear sl4 sl87; refine lx [4] ?_; clear sl0 sl2 sl3; intro s116 sl0 sl2 sl3 sl4; refine lr ?_; intros
          refine P7 ?_
          refine lx [97] ?_; clear sl0 sl2 sl3 sl4; intro s117 sl0 sl2 sl3 sl4 sl97; refine ln ?_; intros
          refine cond_E sl97 (by decide) ?_ ?_ <;> (clear sl97; intro h97 sl97)
          ·skip
           have HS := hid (H3.out G0.out G6.out ⟨He.out, by have h := h97; simp at h; omega⟩); clear h97
           refine nr ?_; intros
           refine P4 ?_
           have zV := kV.2.2; refine pl ?_; refine sto kV ?_; clear kV cV zV; intro w118 kV hb119; clear qV qG; replace hP := Own.oldB hP hb119 XW15b; replace hRt := Rd.oldN hRt hb119 XW15c; revert HB; revert kG; refine uO hb119 ?_; clear hb119; intro kG qG HB; have qV := kV.1; clear sl97; refine lx [] ?_; clear sl0 sl2 sl3 sl4; intro s120 sl0 sl2 sl3 sl4; refine lr ?_; intros
           refine P4 ?_
           have cV := clx kV
           refine P3 ?_
           refine F2 ?_; refine pl ?_; refine lx [111] ?_; clear sl0 sl2 sl3 sl4; intro s121 sl0 sl2 sl3 sl4 sl111; refine ln ?_; intros
           refine cond_f ?_
           refine nr ?_; intros
           refine P6 ?_
           clear sl111; refine lx [121] ?_; clear sl0 sl2 sl3 sl4; intro s122 sl0 sl2 sl3 sl4 sl121; refine ln ?_; intros
           refine cond_f ?_
           refine zx ?_; intros
           refine norm_F _ (res_none Tryz.results101) ?_; refine XW15g ?_; rw [HS.out]; exact XW15h
          ·skip
           have G7 := hid (show ¬ (op = 7 ∧ pr.length = 200) by have h := h97; simp at h; omega); clear h97
           refine nr ?_; intros
           refine P7 ?_
           refine py ?_; refine py ?_; refine pl ?_; clear sl97; refine lx [111] ?_; clear sl0 sl2 sl3 sl4; intro s123 sl0 sl2 sl3 sl4 sl111; refine ln ?_; intros
           refine cond_E sl111 (by decide) ?_ ?_ <;> (clear sl111; intro h111 sl111)
           ·skip
            have HS := hid (H4.out G0.out G6.out G7.out (by simpa using h111)); clear h111
            refine nr ?_; intros
            refine P4 ?_
            have zV := kV.2.2; refine pl ?_; refine sto kV ?_; clear kV cV zV; intro w124 kV hb125; clear qV qG; replace hP := Own.oldB hP hb125 XW15b; replace hRt := Rd.oldN hRt hb125 XW15c; revert HB; revert kG; refine uO hb125 ?_; clear hb125; intro kG qG HB; have qV := kV.1; clear sl111; refine lx [] ?_; clear sl0 sl2 sl3 sl4; intro s126 sl0 sl2 sl3 sl4; refine lr ?_; intros
            refine P4 ?_
            have cV := clx kV; refine P2 ?_; refine lx [121] ?_; clear sl0 sl2 sl3 sl4; intro s127 sl0 sl2 sl3 sl4 sl121; refine ln ?_; intros
            refine cond_f ?_
            refine zx ?_; intros
            refine norm_F _ (res_none Tryz.results101) ?_; refine XW15g ?_; rw [HS.out]; exact XW15h
           ·skip
            have HS := hid (H5.out G0.out G6.out G7.out (by simpa using h111)); clear h111
            refine nr ?_; intros
            refine P6 ?_
            clear sl111; refine lx [121] ?_; clear sl0 sl2 sl3 sl4; intro s128 sl0 sl2 sl3 sl4 sl121; refine ln ?_; intros
            refine cond_t ?_
            refine nr ?_; intros; refine pl ?_; have hRt0 := hRt; have HB0 := HB.out; refine cal (oprint_any N pr V G sc ta tp.length tc (tk : Int) qa qc tm (p : Int) dn 0 op nx f t st _ kV nVG kG hst hP Hpv.out Hpg.out hNV hNG (by have := HB.out.size; omega) (by omega) hf x Hx.out) ?_; rintro e w129 ⟨ax, cx, rfl, kV', kG', hO9, hv9, hg9, hc9, hb130⟩; replace HB := hid (HB.out.more hb130 (fun c hc => .inr (by rcases List.mem_cons.1 hc with h | h; (subst h; simp); simp [h]))); replace kV := kV'; replace kG := kG'; replace hRt := Rd.oldN hRt hb130 (fun hl b hb hm => by obtain ⟨_, h1, h2, h3⟩ := Htb.out hl b hb; rcases List.mem_cons.1 hm with h | h; exact h1 h; simp at h; exact h3 h); have HT9 := hid (show tp ≠ [] → ∀ b, ta = some b → (Value.slice ax (pr ++ [x]).length cx).ownBlock ≠ some b.block from fun hl b hb e => by rcases hc9 _ e with h | h; exact (Htb.out hl b hb).2.2.2 h; have := Rd.lt hRt0 hl b hb; omega)
            have HA9 := hid (show ∀ k ∈ av, (Value.slice ax (pr ++ [x]).length cx).ownBlock ≠ some k from fun k hk e => by rcases hc9 _ e with h | h; exact (Hav.out k hk).2.2.2.1 h; have h2 := (Hav.out k hk).1; have h3 := HB0.size; omega); have hP2 := hO9; have hv2 := hid hv9; have hg2 := hid hg9; clear hb130 hO9 hv9 hg9 hc9 hRt0 HB0 kV' kG'; refine ⟨_, rfl, ?_⟩; clear cV; clear qV qG; have qV := kV.1; have qG := kG.1; clear hP; clear sl4 sl121; refine lx [] ?_; clear sl0 sl2 sl3; intro s131 sl0 sl2 sl3; refine lr ?_; intros
            refine P9 ?_
            have cV := clx kV
            refine P5 ?_
            have zV := kV.2.2; refine pl ?_; refine sto kV ?_; clear kV cV zV; intro w132 kV hb133; clear qV qG; replace hRt := Rd.oldN hRt hb133 XW15c; replace hP2 := Own.oldB hP2 hb133 XW15f; revert HB; revert kG; refine uO hb133 ?_; clear hb133; intro kG qG HB; have qV := kV.1
            refine P3 ?_
            have cV := clx kV; have zV := kV.2.2; refine pl ?_; refine sto kV ?_; clear kV cV zV; intro w134 kV hb135; clear qV qG; replace hRt := Rd.oldN hRt hb135 XW15c; replace hP2 := Own.oldB hP2 hb135 XW15f; revert HB; revert kG; refine uO hb135 ?_; clear hb135; intro kG qG HB; have qV := kV.1
            refine P3 ?_
            have cV := clx kV; have zV := kV.2.2; refine pl ?_; refine sto kV ?_; clear kV cV zV; intro w136 kV hb137; clear qV qG; replace hRt := Rd.oldN hRt hb137 XW15c; replace hP2 := Own.oldB hP2 hb137 XW15f; revert HB; revert kG; refine uO hb137 ?_; clear hb137; intro kG qG HB; have qV := kV.1; clear sl0 sl2 sl3; refine lx [] ?_; intro s138; refine ln ?_; intros
            refine norm_F _ (res_none Tryz.results101) ?_
            have eS : step4 s = ⟨st, tp, (tk : Int), pr ++ [x], u, n, dn + 1, 0⟩ := by rw [HS.out]; simp [storeO, He.out]
            refine XW15g ?_; rw [eS]; exact ⟨G, sc, ta, tc, ax, cx, hNV, hNG, nVG, kV, kG, hP2, hv2.out, hg2.out, hRt, fun hl b hb => ⟨(Htb.out hl b hb).1, (Htb.out hl b hb).2.1, (Htb.out hl b hb).2.2.1, HT9.out hl b hb⟩, fun k hk => ⟨(Hav.out k hk).2.1, (Hav.out k hk).2.2.1, HA9.out k hk, (Hav.out k hk).2.2.2.2⟩⟩
         ·skip
          have g87 : ¬ op = 7 := by simpa using h87
          clear h87; have G6 := hid (show ¬ (op = 6 ∧ tk = tp.length) by omega); have G7 := hid (show ¬ (op = 7 ∧ pr.length = 200) by omega)
          refine nr ?_; intros
          refine P7 ?_
          refine py ?_; refine py ?_; refine pl ?_; clear sl87; refine lx [111] ?_; clear sl0 sl2 sl3 sl4; intro s139 sl0 sl2 sl3 sl4 sl111; refine ln ?_; intros
          refine cond_E sl111 (by decide) ?_ ?_ <;> (clear sl111; intro h111 sl111)
          ·skip
           have HS := hid (H4.out G0.out G6.out G7.out (by simpa using h111)); clear h111
           refine nr ?_; intros
           refine P4 ?_
           have zV := kV.2.2; refine pl ?_; refine sto kV ?_; clear kV cV zV; intro w140 kV hb141; clear qV qG; replace hP := Own.oldB hP hb141 XW15b; replace hRt := Rd.oldN hRt hb141 XW15c; revert HB; revert kG; refine uO hb141 ?_; clear hb141; intro kG qG HB; have qV := kV.1; clear sl111; refine lx [] ?_; clear sl0 sl2 sl3 sl4; intro s142 sl0 sl2 sl3 sl4; refine lr ?_; intros
           refine P4 ?_
           have cV := clx kV; refine P2 ?_; refine lx [121] ?_; clear sl0 sl2 sl3 sl4; intro s143 sl0 sl2 sl3 sl4 sl121; refine ln ?_; intros
           refine cond_f ?_
           refine zx ?_; intros
           refine norm_F _ (res_none Tryz.results101) ?_; refine XW15g ?_; rw [HS.out]; exact XW15h
          ·skip
           have HS := hid (H5.out G0.out G6.out G7.out (by simpa using h111)); clear h111
           refine nr ?_; intros
           refine P6 ?_
           clear sl111; refine lx [121] ?_; clear sl0 sl2 sl3 sl4; intro s144 sl0 sl2 sl3 sl4 sl121; refine ln ?_; intros
           refine cond_t ?_
           refine nr ?_; intros; refine pl ?_; refine cal (ostep1_any _) ?_; rintro e w' ⟨rfl, rfl⟩; refine ⟨_, rfl, ?_⟩; clear sl4 sl121; refine lx [] ?_; clear sl0 sl2 sl3; intro s146 sl0 sl2 sl3; refine lr ?_; intros
           refine P14 ?_
           have zV := kV.2.2; refine pl ?_; refine sto kV ?_; clear kV cV zV; intro w147 kV hb148; clear qV qG; replace hP := Own.oldB hP hb148 XW15b; replace hRt := Rd.oldN hRt hb148 XW15c; revert HB; revert kG; refine uO hb148 ?_; clear hb148; intro kG qG HB; have qV := kV.1
           refine P3 ?_
           have cV := clx kV; have zV := kV.2.2; refine pl ?_; refine sto kV ?_; clear kV cV zV; intro w149 kV hb150; clear qV qG; replace hP := Own.oldB hP hb150 XW15b; replace hRt := Rd.oldN hRt hb150 XW15c; revert HB; revert kG; refine uO hb150 ?_; clear hb150; intro kG qG HB; have qV := kV.1
           refine P3 ?_
           have cV := clx kV; have zV := kV.2.2; refine pl ?_; refine sto kV ?_; clear kV cV zV; intro w151 kV hb152; clear qV qG; replace hP := Own.oldB hP hb152 XW15b; replace hRt := Rd.oldN hRt hb152 XW15c; revert HB; revert kG; refine uO hb152 ?_; clear hb152; intro kG qG HB; have qV := kV.1; clear sl0 sl2 sl3; refine lx [] ?_; intro s153; refine ln ?_; intros
           refine norm_F _ (res_none Tryz.results101) ?_
           have eS : step4 s = ⟨st, tp, (tk : Int), pr, u, n, dn + 1, 0⟩ := by rw [HS.out]; simp [storeO, G0.out, g51, g55, g59, g63, g67, g87]
           refine XW15g ?_; rw [eS]; exact XW15h
  case dep12 => exact dA
 case dep11 => exact dA


theorem ostep_any (s : St4) (av : List Nat) (N V : Nat) (o0 : Ord) (w : World) (hM : OM N av w V s o0) (hO : OkI s) (hw0 : s.why = 0) (hNw : N ≤ w.heap.size) (hav : ∀ k ∈ av, k < w.heap.size) :
    Calls Tryz.prog 101 #[.pointer (some ⟨V, 0, none⟩)] w (fun e w' => e = .returned (.tuple #[]) ∧ OM N av w' V (step4 s) (orderOf s) ∧ Below N w w' ∧ KeepL av w w') := by
  obtain ⟨G, sc, ta, tc, pa, pc, m1, m2, m3, m4, m5, m6, m7, m8, m9, m10, m11⟩ := hM; have hl := hO.l0; obtain ⟨⟨o1, o2⟩, ⟨o3, o4⟩, ⟨o5, o6⟩, o7, o8⟩ := hO.ord; have hfx := hO.fr; have hty := hO.tt; have hu := untilO_gt (orderOf s) s.time (decide (signI (frOf s) < 0)); obtain ⟨p, hp⟩ := Int.eq_ofNat_of_zero_le hO.pc.1; obtain ⟨tk, htk⟩ := Int.eq_ofNat_of_zero_le hO.tk.1; obtain ⟨f, hf⟩ := Int.eq_ofNat_of_zero_le o3; obtain ⟨t, ht⟩ := Int.eq_ofNat_of_zero_le o5; have hpc := hO.pc; have htk2 := hO.tk
  have hord : orderOf s = ⟨(orderOf s).op, (f : Int), (t : Int), (orderOf s).nx⟩ := by rw [← hf, ← ht]
  have hv := hO.w0 _ (getD_in (l := s.store) (i := s.pc.toNat) (d := 0) (by omega)); rw [hp, htk, hw0] at m4
  have h := ostep_v s av N V G sc ta tc pa pc s.store s.tape s.printed tk p f t s.time s.done (orderOf s).op (orderOf s).nx (s.store.getD s.pc.toNat 0) (frOf s) (ttOf s) (nextO (orderOf s) (decide (signI (frOf s) < 0))) (untilO (orderOf s) s.time (decide (signI (frOf s) < 0))) o0 w
    hord hv hfx hty (hid hl) (by omega) (by omega) (by omega) hO.l1 hO.l2 (by omega) ⟨o1, o2⟩ ⟨o7, o8⟩ hO.tm hO.dn ⟨hu.1, hu.2.1⟩ (by rw [← hord]) (by rw [← hord]) (by rw [hp]; rfl) (by unfold frOf; rw [hf]; rfl) (by unfold ttOf; rw [ht]; rfl)
    m4 m3 m5 m6 m7 m8 m1 m2 hNw m9 m10 (fun k hk => ⟨hav k hk, m11 k hk⟩)
    (fun h0 => step_why (k := 1) (by unfold whyOf; rw [if_pos h0]) (by decide) hp htk)
    (fun h0 h1 => step_why (k := 2) (by unfold whyOf; rw [if_neg h0, if_pos ⟨h1.1, by omega⟩]) (by decide) hp htk)
    (fun h0 h1 h2 => step_why (k := 3) (by unfold whyOf; rw [if_neg h0, if_neg (fun g => h1 ⟨g.1, by omega⟩), if_pos h2]) (by decide) hp htk)
    (fun h0 h1 h2 h3 => step_why (k := 4) (by unfold whyOf; rw [if_neg h0, if_neg (fun g => h1 ⟨g.1, by omega⟩), if_neg h2, if_pos h3]) (by decide) hp htk)
    (fun h0 h1 h2 h3 => by
      have hw : whyOf s = 0 := by unfold whyOf; rw [if_neg h0, if_neg (fun g => h1 ⟨g.1, by omega⟩), if_neg h2, if_neg h3]
      have es : (⟨s.store, s.tape, (tk : Int), s.printed, s.time, (p : Int), s.done, 0⟩ : St4) = s := by
        cases s
        simp only at hp htk hw0
        rw [hp, htk, hw0]
      rw [es, ← hord, ← htk]; unfold step4
      rw [if_neg (by omega), hw0])
  rw [← hord] at h; exact h

end Go.Proofs.YtleknidlgmmgbaaGreat
