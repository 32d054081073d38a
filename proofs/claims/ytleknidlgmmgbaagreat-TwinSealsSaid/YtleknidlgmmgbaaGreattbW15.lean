/- The program's order: step. -/
import Derived.Test.YtleknidlgmmgbaaGreattbW14
import Derived.Test.YtleknidlgmmgbaaGreattbCX
import Derived.Test.YtleknidlgmmgbaaGreattbCY
set_option linter.all false
namespace Go.Proofs.YtleknidlgmmgbaaGreat

open Go.RowKit


def KeepL (av : List Nat) (w w' : World) : Prop := ∀ k ∈ av, w'.heap[k]? = w.heap[k]?
theorem odec_v (v op nx : Int) (f t : Nat) (w : World) (hd : decodeO v = ⟨op, f, t, nx⟩) (hv : 0 ≤ v ∧ v ≤ 16777215) :
    Calls Tryz.prog 83 #[.int .i64 v] w (fun e w' => e = .returned (.agg #[.int .i64 op, .int .i64 (f : Int), .int .i64 (t : Int), .int .i64 nx]) ∧ Below w.heap.size w w') := by
  have := odecode_any v w hv; rw [hd] at this; exact this
theorem owhen_v (op fr tt nx t n u : Int) (neg : Bool) (w : World) (ht : 0 ≤ t ∧ t ≤ 1000000000) (ho : (0 ≤ op ∧ op ≤ 7) ∧ (0 ≤ fr ∧ fr ≤ 127) ∧ (0 ≤ tt ∧ tt ≤ 127) ∧ (0 ≤ nx ∧ nx ≤ 127)) (hn : nextO ⟨op, fr, tt, nx⟩ neg = n) (hu : untilO ⟨op, fr, tt, nx⟩ t neg = u) :
    Calls Tryz.prog 117 #[.agg #[.int .i64 op, .int .i64 fr, .int .i64 tt, .int .i64 nx], .int .i64 t, .bool neg] w (fun e w' => e = .returned (.tuple #[.int .i64 n, .int .i64 u]) ∧ Below w.heap.size w w') := by
  have := owhen_any ⟨op, fr, tt, nx⟩ t neg w ht ho; rw [hn, hu] at this; exact this

set_option maxRecDepth 100000 in
set_option maxHeartbeats 1000000 in
theorem ostep1_any (w : World) :
    Calls Tryz.prog 120 #[] w (fun e w' => e = .returned (.tuple #[]) ∧ w = w') := by
 refine enter_F Tryz.func120 rfl Tryz.ntmps120 (by simp) ?_
 intro s0 hs; clear hs; have HB := hid (OldB.refl [] w)
 repeat ((fail_if_success refine stp ?_); go_step)
 refine norm_F _ (res_none Tryz.results120) ?_; exact ⟨rfl, rfl⟩

set_option maxRecDepth 100000 in
set_option maxHeartbeats 32000000 in
theorem ostep_v (s : St4) (av : List Nat) (N V G sc : Nat) (ta : Option Addr) (tc : Nat) (qa : Option Addr) (qc : Nat) (st tp pr : List Int) (tk p f t : Nat) (tm dn op nx v x y n u : Int) (o0 : Ord) (w : World) (hdv : decodeO v = ⟨op, f, t, nx⟩) (hv : 0 ≤ v ∧ v ≤ 16777215) (hxb : 0 ≤ x ∧ x ≤ 16777215) (hyb : 0 ≤ y ∧ y ≤ 16777215) (hst : Hid (st.length = 128)) (hp : p < 128) (hf : f < 128) (ht : t < 128) (htp200 : tp.length ≤ 200) (hpr : pr.length ≤ 200) (htk : tk ≤ tp.length) (hop : 0 ≤ op ∧ op ≤ 7) (hnx : 0 ≤ nx ∧ nx ≤ 127) (htm : 0 ≤ tm ∧ tm ≤ 1000000000) (hdn : 0 ≤ dn ∧ dn ≤ tm) (hun : tm < u ∧ u ≤ tm + 80) (hn : nextO ⟨op, f, t, nx⟩ (decide (signI x < 0)) = n) (hu : untilO ⟨op, f, t, nx⟩ tm (decide (signI x < 0)) = u) (hvp : st.getD p 0 = v) (hx : st.getD f 0 = x) (hy : st.getD t 0 = y) (hV : Cells w V (mC (some ⟨G, 0, none⟩) st.length sc ta tp.length tc (tk : Int) qa pr.length qc tm (p : Int) dn 0 o0.op o0.fr o0.tt o0.nx)) (hVG : V ≠ G) (hG : Cells w G (st.flatMap int1)) (hP : Own int1 1 3 N w (Value.slice qa pr.length qc) pr) (hpv : (Value.slice qa pr.length qc).ownBlock ≠ some V) (hpg : (Value.slice qa pr.length qc).ownBlock ≠ some G) (hNV : N ≤ V) (hNG : N ≤ G) (hNw : N ≤ w.heap.size) (hRt : RdInts w ta tp) (htb : tp ≠ [] → ∀ b, ta = some b → N ≤ b.block ∧ b.block ≠ V ∧ b.block ≠ G ∧ (Value.slice qa pr.length qc).ownBlock ≠ some b.block) (hav : ∀ k ∈ av, k < w.heap.size ∧ k ≠ V ∧ k ≠ G ∧ (Value.slice qa pr.length qc).ownBlock ≠ some k ∧ (tp ≠ [] → ∀ b, ta = some b → b.block ≠ k)) (h1 : op = 0 → step4 s = ⟨st, tp, (tk : Int), pr, tm, (p : Int), dn, 1⟩) (h2 : ¬ op = 0 → (op = 6 ∧ tk = tp.length) → step4 s = ⟨st, tp, (tk : Int), pr, tm, (p : Int), dn, 2⟩) (h3 : ¬ op = 0 → ¬ (op = 6 ∧ tk = tp.length) → (op = 7 ∧ pr.length = 200) → step4 s = ⟨st, tp, (tk : Int), pr, tm, (p : Int), dn, 3⟩) (h4 : ¬ op = 0 → ¬ (op = 6 ∧ tk = tp.length) → ¬ (op = 7 ∧ pr.length = 200) → 1000000000 < u → step4 s = ⟨st, tp, (tk : Int), pr, tm, (p : Int), dn, 4⟩) (h5 : ¬ op = 0 → ¬ (op = 6 ∧ tk = tp.length) → ¬ (op = 7 ∧ pr.length = 200) → ¬ 1000000000 < u → step4 s = ⟨storeO ⟨st, tp, (tk : Int), pr, tm, (p : Int), dn, 0⟩ ⟨op, f, t, nx⟩ x y, tp, if op = 6 then (tk : Int) + 1 else tk, if op = 7 then pr ++ [x] else pr, u, n, dn + 1, 0⟩) :
    Calls Tryz.prog 101 #[.pointer (some ⟨V, 0, none⟩)] w (fun e w' => e = .returned (.tuple #[]) ∧ OM N av w' V (step4 s) ⟨op, f, t, nx⟩ ∧ Below N w w' ∧ KeepL av w w') := by
 have HP0 := hid hP; have hmf := hmf; have Hdv := hid hdv; have Hn := hid hn; have Hu := hid hu; have Hvp := hid hvp; have Hx := hid hx; have Hy := hid hy; have Hpv := hid hpv; have Hpg := hid hpg; have Htb := hid htb; have Hav := hid hav; have H1 := hid h1; have H2 := hid h2; have H3 := hid h3; have H4 := hid h4; have H5 := hid h5; clear hdv hn hu hvp hx hy hpv hpg htb hav h1 h2 h3 h4 h5; have nVG : ¬ V = G := hVG
 have nGV : ¬ G = V := fun e => hVG e.symm
 have wdn : IntKind.i64.wrap (dn + 1) = dn + 1 := IntWalk.i64_in _ (by omega)
 have lp : p < st.length := by rw [hst.out]; exact hp
 have lf : f < st.length := by rw [hst.out]; exact hf
 have lt : t < st.length := by rw [hst.out]; exact ht
 have hst2 : st.length ≤ 128 := by rw [hst.out]; omega
 have ip : (p : Int) < st.length := by omega
 have if' : (f : Int) < st.length := by omega
 have it : (t : Int) < st.length := by omega
 have kV := hV; have kG := hG
 refine enter_F Tryz.func101 rfl Tryz.ntmps101 (by simp) ?_
 intro s0 hs; have sl0 : s0 0 = .pointer (some ⟨V, 0, none⟩) := hs 0 (by simp); clear hs; have HB := hid (OldB.refl (V :: G :: (Value.slice qa pr.length qc).ownBlock.toList) w); have qV := kV.1; have qG := kG.1
 repeat ((fail_if_success refine stp ?_); go_step)
 have cgp := ints_cell kG lp; rw [← getD_get lp 0, Hvp.out] at cgp; obtain ⟨cV_0, cV_1, cV_2, cV_3, cV_4, cV_5, cV_6, cV_7, cV_8, cV_9, cV_10, cV_11⟩ := cl12 kV; refine regionR_F [] [] [] [.q [], .q [], .q [], .q [], .q [], .q [], .q [], .q [], .q [], .q [], .q [], .q [], .q [], .q []] [?v11_0, ?v11_1, ?v11_2, ?v11_3, ?v11_4, ?v11_5, ?v11_6, ?v11_7, ?v11_8, ?v11_9, ?v11_10, ?v11_11, ?v11_12, ?v11_13] [fun _ => [], fun _ => [], fun _ => [], fun _ => [], fun _ => [], fun _ => [], fun _ => [], fun _ => [], fun _ => [], fun _ => [], fun _ => [], fun _ => [], fun _ => [], fun _ => []] (by kernel_rfl) (by kernel_rfl) (by kernel_rfl) (by kernel_rfl) (by kernel_rfl) (by first | exact List.nodup_nil | exact List.nodup_singleton _ | (simp; done) | (simp; omega)) bc_nil ?walk11 ?dep11
 case walk11 =>
  iterate 13 refine rq ?_
  refine walkR_q (by rfl) (fun X hX wq hwq hrq => ?_) ?_
  · obtain ⟨hcq, hfq⟩ := hwq.b0
    clear hrq; go_simp
    (with_reducible exact (odec_v v op nx f t _ Hdv.out hv))
  refine walkR_nil (fun X hX w1 hwz hcz => ?_); clear hX hcz
  (try clear X)
  skip; have hb2 := hwz.unDrew; clear hwz; clear cV_0 cV_1 cV_2 cV_3 cV_4 cV_5 cV_6 cV_7 cV_8 cV_9 cV_10 cV_11; clear qV qG; replace kV := kV.oB hb2; replace kG := kG.oB hb2; replace hP := Own.oldB hP hb2 (fun g hg hm => by have a1 := Hpv.out; have a2 := Hpg.out; rw [hg] at a1 a2; simp at a1 a2 hm <;> omega); replace hRt := Rd.oldN hRt hb2 (fun hl b hb hm => by obtain ⟨_, h1, h2, _⟩ := Htb.out hl b hb; simp at hm <;> omega); replace HB := mO HB hb2; clear hb2; have qV := kV.1; have qG := kG.1; clear cgp; refine pl ?_; refine pl ?_; obtain ⟨cV_0, cV_1, cV_2, cV_3, cV_4, cV_5, cV_6, cV_7, cV_8, cV_9, cV_10, cV_11⟩ := cl12 kV; have zV := kV.2.2; refine pl ?_; refine listF_absw (fun w3 hw' => ?_); have kV' := cells_of hw' (Cells.set (i := 11) (Cells.set (i := 10) (Cells.set (i := 9) (Cells.set (i := 8) (kV)))))
  (try simp only [stC, mC, List.set_cons_zero, List.set_cons_succ] at kV')
  have hb4 : OldB [V] w1 w3 := oldset hw'; clear hw'; clear cV_0 cV_1 cV_2 cV_3 cV_4 cV_5 cV_6 cV_7 cV_8 cV_9 cV_10 cV_11 zV; clear qV qG; replace kV := kV'; replace kG := kG.oB hb4; replace hP := Own.oldB hP hb4 (fun g hg hm => by have a1 := Hpv.out; have a2 := Hpg.out; rw [hg] at a1 a2; simp at a1 a2 hm <;> omega); replace hRt := Rd.oldN hRt hb4 (fun hl b hb hm => by obtain ⟨_, h1, h2, _⟩ := Htb.out hl b hb; simp at hm <;> omega); replace HB := mO HB hb4; clear hb4; have qV := kV.1; have qG := kG.1; clear kV'; refine lsa fun s5 z' => ?_; replace sl0 := slg z' sl0; clear z'; refine lsn ?_
  repeat ((fail_if_success refine stp ?_); go_step)
  have cgf := ints_cell kG lf; rw [← getD_get lf 0, Hx.out] at cgf; obtain ⟨cV_0, cV_1, cV_2, cV_3, cV_4, cV_5, cV_6, cV_7, cV_8, cV_9, cV_10, cV_11⟩ := cl12 kV; refine regionR_F [] [] [] [.q [], .q [], .q [], .q [], .q [], .q [], .q [], .q [], .q [], .q [], .q [], .q [], .q [], .q [], .q [], .q [], .q [], .q [], .q [], .q []] [?v12_0, ?v12_1, ?v12_2, ?v12_3, ?v12_4, ?v12_5, ?v12_6, ?v12_7, ?v12_8, ?v12_9, ?v12_10, ?v12_11, ?v12_12, ?v12_13, ?v12_14, ?v12_15, ?v12_16, ?v12_17, ?v12_18, ?v12_19] [fun _ => [], fun _ => [], fun _ => [], fun _ => [], fun _ => [], fun _ => [], fun _ => [], fun _ => [], fun _ => [], fun _ => [], fun _ => [], fun _ => [], fun _ => [], fun _ => [], fun _ => [], fun _ => [], fun _ => [], fun _ => [], fun _ => [], fun _ => []] (by kernel_rfl) (by kernel_rfl) (by kernel_rfl) (by kernel_rfl) (by kernel_rfl) (by first | exact List.nodup_nil | exact List.nodup_singleton _ | (simp; done) | (simp; omega)) bc_nil ?walk12 ?dep12
  case walk12 =>
   iterate 10 refine rq ?_
   refine walkR_q (by rfl) (fun X hX wq hwq hrq => ?_) ?_
   · obtain ⟨hcq, hfq⟩ := hwq.b0
     clear hrq; go_simp
     (with_reducible exact (ofrom_any V G sc ta tp.length tc (tk : Int) qa pr.length qc tm (p : Int) dn 0 op nx f t st _ (kV.oldB hwq.unDrew (by simp)) hf hst))
   refine rq ?_; refine rq ?_; refine walkR_q (by rfl) (fun X hX wq hwq hrq => ?_) ?_
   · obtain ⟨hcq, hfq⟩ := hwq.b0
     clear hrq; go_simp
     (refine cB ?_; with_reducible exact (signed_any x _ hxb))
   refine rq ?_; refine walkR_q (by rfl) (fun X hX wq hwq hrq => ?_) ?_
   · obtain ⟨hcq, hfq⟩ := hwq.b0
     clear hrq; go_simp
     (with_reducible exact (owhen_v op f t nx tm n u (decide (signI x < 0)) _ htm ⟨hop, ⟨by omega, by omega⟩, ⟨by omega, by omega⟩, hnx⟩ Hn.out Hu.out))
   iterate 4 refine rq ?_
   refine walkR_nil (fun X hX w6 hwz hcz => ?_); clear hX hcz
   (try clear X)
   skip; have hb7 := hwz.unDrew; clear hwz; clear cV_0 cV_1 cV_2 cV_3 cV_4 cV_5 cV_6 cV_7 cV_8 cV_9 cV_10 cV_11; clear qV qG; replace kV := kV.oB hb7; replace kG := kG.oB hb7; replace hP := Own.oldB hP hb7 (fun g hg hm => by have a1 := Hpv.out; have a2 := Hpg.out; rw [hg] at a1 a2; simp at a1 a2 hm <;> omega); replace hRt := Rd.oldN hRt hb7 (fun hl b hb hm => by obtain ⟨_, h1, h2, _⟩ := Htb.out hl b hb; simp at hm <;> omega); replace HB := mO HB hb7; clear hb7; have qV := kV.1; have qG := kG.1; clear cgf; refine pl ?_; refine lsa fun s8 z' => ?_; replace sl0 := slg z' sl0; have sl2 := gu 2 z'; have sl3 := gu 3 z'; clear z'; refine lsn ?_
   repeat ((fail_if_success refine stp ?_); go_step)
   refine region_F ?_; refine pl ?_; refine lsa fun s9 z' => ?_; replace sl0 := slg z' sl0; replace sl2 := slg z' sl2; replace sl3 := slg z' sl3; have sl4 := gu 4 z'; clear z'; refine lsn ?_
   repeat ((fail_if_success refine stp ?_); go_step)
   refine region_F ?_
   iterate 4 refine pl ?_
   obtain ⟨cV_0, cV_1, cV_2, cV_3, cV_4, cV_5, cV_6, cV_7, cV_8, cV_9, cV_10, cV_11⟩ := cl12 kV; refine pl ?_; refine lsa fun s10 z' => ?_; replace sl0 := slg z' sl0; replace sl2 := slg z' sl2; replace sl3 := slg z' sl3; replace sl4 := slg z' sl4; have sl44 := gu 44 z'; clear z'; refine lsn ?_
   repeat ((fail_if_success refine stp ?_); go_step)
   refine region_F ?_; refine pl ?_; refine pl ?_; refine lsa fun s11 z' => ?_; replace sl0 := slg z' sl0; replace sl2 := slg z' sl2; replace sl3 := slg z' sl3; replace sl4 := slg z' sl4; replace sl44 := slg z' sl44; have sl45 := gu 45 z'; clear z'; refine lsn ?_
   repeat ((fail_if_success refine stp ?_); go_step)
   refine cond_E sl45 (by decide) ?_ ?_ <;> (clear sl45; intro h45 sl45)
   ·skip
    have He := hid (show op = 0 by simpa using h45); have HS := hid (H1.out He.out); clear h45
    repeat ((fail_if_success refine stp ?_); go_step)
    refine region_F ?_
    iterate 4 refine pl ?_
    have zV := kV.2.2; refine pl ?_; refine listF_absw (fun w12 hw' => ?_); have kV' := cells_of hw' (Cells.set (i := 7) (kV))
    (try simp only [stC, mC, List.set_cons_zero, List.set_cons_succ] at kV')
    have hb13 : OldB [V] w6 w12 := oldset hw'; clear hw'; clear cV_0 cV_1 cV_2 cV_3 cV_4 cV_5 cV_6 cV_7 cV_8 cV_9 cV_10 cV_11 zV; clear qV qG; replace kV := kV'; replace kG := kG.oB hb13; replace hP := Own.oldB hP hb13 (fun g hg hm => by have a1 := Hpv.out; have a2 := Hpg.out; rw [hg] at a1 a2; simp at a1 a2 hm <;> omega); replace hRt := Rd.oldN hRt hb13 (fun hl b hb hm => by obtain ⟨_, h1, h2, _⟩ := Htb.out hl b hb; simp at hm <;> omega); replace HB := mO HB hb13; clear hb13; have qV := kV.1; have qG := kG.1; clear kV'; refine lsa fun s14 z' => ?_; replace sl0 := slg z' sl0; replace sl2 := slg z' sl2; replace sl3 := slg z' sl3; replace sl4 := slg z' sl4; clear z' sl44 sl45; refine lsn ?_
    repeat ((fail_if_success refine stp ?_); go_step)
    refine region_F ?_
    iterate 4 refine pl ?_
    obtain ⟨cV_0, cV_1, cV_2, cV_3, cV_4, cV_5, cV_6, cV_7, cV_8, cV_9, cV_10, cV_11⟩ := cl12 kV
    iterate 3 refine pl ?_
    refine pn false ?_; refine pn false ?_; refine pl ?_; refine lsa fun s15 z' => ?_; replace sl0 := slg z' sl0; replace sl2 := slg z' sl2; replace sl3 := slg z' sl3; replace sl4 := slg z' sl4; have sl111 := gu 111 z'; clear z'; refine lsn ?_
    repeat ((fail_if_success refine stp ?_); go_step)
    refine cond_f ?_
    repeat ((fail_if_success refine stp ?_); go_step)
    refine region_F ?_
    iterate 6 refine pl ?_
    refine lsa fun s16 z' => ?_; replace sl0 := slg z' sl0; replace sl2 := slg z' sl2; replace sl3 := slg z' sl3; replace sl4 := slg z' sl4; have sl121 := gu 121 z'; clear z' sl111; refine lsn ?_
    repeat ((fail_if_success refine stp ?_); go_step)
    refine cond_f ?_
    repeat ((fail_if_success refine stp ?_); go_step)
    refine norm_F _ (res_none Tryz.results101) ?_; refine ⟨rfl, ?_, HB.out.lowN hNw (fun b hb => by rcases List.mem_cons.1 hb with h | h; omega; rcases List.mem_cons.1 h with h | h; omega; simp at h; exact (World.ownsRow.lt HP0.out b h).1), fun k hk => HB.out.block k (Hav.out k hk).1 (fun hm => by have h9 := (Hav.out k hk).2; rcases List.mem_cons.1 hm with h | h; exact h9.1 h; rcases List.mem_cons.1 h with h | h; exact h9.2.1 h; simp at h; exact h9.2.2.1 h)⟩; rw [HS.out]; exact ⟨G, sc, ta, tc, qa, qc, hNV, hNG, nVG, kV, kG, hP, Hpv.out, Hpg.out, hRt, fun hl b hb => Htb.out hl b hb, fun k hk => (Hav.out k hk).2⟩
   ·skip
    have G0 := hid (show ¬ op = 0 by simpa using h45); clear h45
    repeat ((fail_if_success refine stp ?_); go_step)
    refine region_F ?_; refine pl ?_; refine pl ?_; refine lsa fun s17 z' => ?_; replace sl0 := slg z' sl0; replace sl2 := slg z' sl2; replace sl3 := slg z' sl3; replace sl4 := slg z' sl4; replace sl44 := slg z' sl44; have sl51 := gu 51 z'; clear z' sl45; refine lsn ?_
    repeat ((fail_if_success refine stp ?_); go_step)
    refine cond_E sl51 (by decide) ?_ ?_ <;> (clear sl51; intro h51 sl51)
    ·skip
     have He := hid (show op = 1 by simpa using h51); clear h51; have G6 := hid (show ¬ (op = 6 ∧ tk = tp.length) by have e := He.out; omega); have G7 := hid (show ¬ (op = 7 ∧ pr.length = 200) by have e := He.out; omega)
     repeat ((fail_if_success refine stp ?_); go_step)
     refine region_F ?_
     iterate 3 refine pl ?_
     refine lsa fun s18 z' => ?_; replace sl0 := slg z' sl0; replace sl2 := slg z' sl2; replace sl3 := slg z' sl3; replace sl4 := gu 4 z'; clear z' sl44 sl51; refine lsn ?_
     repeat ((fail_if_success refine stp ?_); go_step)
     refine region_F ?_
     iterate 7 refine pl ?_
     refine py ?_; refine py ?_; refine pl ?_; refine lsa fun s19 z' => ?_; replace sl0 := slg z' sl0; replace sl2 := slg z' sl2; replace sl3 := slg z' sl3; replace sl4 := slg z' sl4; have sl111 := gu 111 z'; clear z'; refine lsn ?_
     repeat ((fail_if_success refine stp ?_); go_step)
     refine cond_E sl111 (by decide) ?_ ?_ <;> (clear sl111; intro h111 sl111)
     ·skip
      have HS := hid (H4.out G0.out G6.out G7.out (by simpa using h111)); clear h111
      repeat ((fail_if_success refine stp ?_); go_step)
      refine region_F ?_
      iterate 4 refine pl ?_
      have zV := kV.2.2; refine pl ?_; refine listF_absw (fun w20 hw' => ?_); have kV' := cells_of hw' (Cells.set (i := 7) (kV))
      (try simp only [stC, mC, List.set_cons_zero, List.set_cons_succ] at kV')
      have hb21 : OldB [V] w6 w20 := oldset hw'; clear hw'; clear cV_0 cV_1 cV_2 cV_3 cV_4 cV_5 cV_6 cV_7 cV_8 cV_9 cV_10 cV_11 zV; clear qV qG; replace kV := kV'; replace kG := kG.oB hb21; replace hP := Own.oldB hP hb21 (fun g hg hm => by have a1 := Hpv.out; have a2 := Hpg.out; rw [hg] at a1 a2; simp at a1 a2 hm <;> omega); replace hRt := Rd.oldN hRt hb21 (fun hl b hb hm => by obtain ⟨_, h1, h2, _⟩ := Htb.out hl b hb; simp at hm <;> omega); replace HB := mO HB hb21; clear hb21; have qV := kV.1; have qG := kG.1; clear kV'; refine lsa fun s22 z' => ?_; replace sl0 := slg z' sl0; replace sl2 := slg z' sl2; replace sl3 := slg z' sl3; replace sl4 := slg z' sl4; clear z' sl111; refine lsn ?_
      repeat ((fail_if_success refine stp ?_); go_step)
      refine region_F ?_
      iterate 4 refine pl ?_
      obtain ⟨cV_0, cV_1, cV_2, cV_3, cV_4, cV_5, cV_6, cV_7, cV_8, cV_9, cV_10, cV_11⟩ := cl12 kV; refine pl ?_; refine pl ?_; refine lsa fun s23 z' => ?_; replace sl0 := slg z' sl0; replace sl2 := slg z' sl2; replace sl3 := slg z' sl3; replace sl4 := slg z' sl4; have sl121 := gu 121 z'; clear z'; refine lsn ?_
      repeat ((fail_if_success refine stp ?_); go_step)
      refine cond_f ?_
      repeat ((fail_if_success refine stp ?_); go_step)
      refine norm_F _ (res_none Tryz.results101) ?_; refine ⟨rfl, ?_, HB.out.lowN hNw (fun b hb => by rcases List.mem_cons.1 hb with h | h; omega; rcases List.mem_cons.1 h with h | h; omega; simp at h; exact (World.ownsRow.lt HP0.out b h).1), fun k hk => HB.out.block k (Hav.out k hk).1 (fun hm => by have h9 := (Hav.out k hk).2; rcases List.mem_cons.1 hm with h | h; exact h9.1 h; rcases List.mem_cons.1 h with h | h; exact h9.2.1 h; simp at h; exact h9.2.2.1 h)⟩; rw [HS.out]; exact ⟨G, sc, ta, tc, qa, qc, hNV, hNG, nVG, kV, kG, hP, Hpv.out, Hpg.out, hRt, fun hl b hb => Htb.out hl b hb, fun k hk => (Hav.out k hk).2⟩
     ·skip
      have HS := hid (H5.out G0.out G6.out G7.out (by simpa using h111)); clear h111
      repeat ((fail_if_success refine stp ?_); go_step)
      refine region_F ?_
      iterate 6 refine pl ?_
      refine lsa fun s24 z' => ?_; replace sl0 := slg z' sl0; replace sl2 := slg z' sl2; replace sl3 := slg z' sl3; replace sl4 := slg z' sl4; have sl121 := gu 121 z'; clear z' sl111; refine lsn ?_
      repeat ((fail_if_success refine stp ?_); go_step)
      refine cond_t ?_
      repeat ((fail_if_success refine stp ?_); go_step)
      refine region_F ?_; refine pl ?_; refine cal (omove_any V G sc ta tp.length tc (tk : Int) qa pr.length qc tm (p : Int) dn 0 op nx f t st _ kV nVG kG hst hf ht x y Hx.out Hy.out hxb hyb) ?_; rintro e w25 ⟨rfl, kV', kG', hb26⟩; replace hb26 := OldB.subset (Cs := [V, G]) hb26 (by simp); refine ⟨_, rfl, ?_⟩; clear cV_0 cV_1 cV_2 cV_3 cV_4 cV_5 cV_6 cV_7 cV_8 cV_9 cV_10 cV_11; clear qV qG; replace kV := kV'; replace kG := kG'; replace hP := Own.oldB hP hb26 (fun g hg hm => by have a1 := Hpv.out; have a2 := Hpg.out; rw [hg] at a1 a2; simp at a1 a2 hm <;> omega); replace hRt := Rd.oldN hRt hb26 (fun hl b hb hm => by obtain ⟨_, h1, h2, _⟩ := Htb.out hl b hb; simp at hm <;> omega); replace HB := mO HB hb26; clear hb26; have qV := kV.1; have qG := kG.1; refine lsa fun s27 z' => ?_; replace sl0 := slg z' sl0; replace sl2 := slg z' sl2; replace sl3 := slg z' sl3; clear z' sl4 sl121
      refine lsn ?_
      repeat ((fail_if_success refine stp ?_); go_step)
      refine region_F ?_
      iterate 9 refine pl ?_
      obtain ⟨cV_0, cV_1, cV_2, cV_3, cV_4, cV_5, cV_6, cV_7, cV_8, cV_9, cV_10, cV_11⟩ := cl12 kV
      iterate 5 refine pl ?_
      have zV := kV.2.2; refine pl ?_; refine listF_absw (fun w28 hw' => ?_); have kV' := cells_of hw' (Cells.set (i := 5) (kV))
      (try simp only [stC, mC, List.set_cons_zero, List.set_cons_succ] at kV')
      have hb29 : OldB [V] w25 w28 := oldset hw'; clear hw'; clear cV_0 cV_1 cV_2 cV_3 cV_4 cV_5 cV_6 cV_7 cV_8 cV_9 cV_10 cV_11 zV; clear qV qG; replace kV := kV'; replace kG := kG.oB hb29; replace hP := Own.oldB hP hb29 (fun g hg hm => by have a1 := Hpv.out; have a2 := Hpg.out; rw [hg] at a1 a2; simp at a1 a2 hm <;> omega); replace hRt := Rd.oldN hRt hb29 (fun hl b hb hm => by obtain ⟨_, h1, h2, _⟩ := Htb.out hl b hb; simp at hm <;> omega); replace HB := mO HB hb29; clear hb29; have qV := kV.1; have qG := kG.1; clear kV'
      iterate 3 refine pl ?_
      obtain ⟨cV_0, cV_1, cV_2, cV_3, cV_4, cV_5, cV_6, cV_7, cV_8, cV_9, cV_10, cV_11⟩ := cl12 kV; have zV := kV.2.2; refine pl ?_; refine listF_absw (fun w30 hw' => ?_); have kV' := cells_of hw' (Cells.set (i := 4) (kV))
      (try simp only [stC, mC, List.set_cons_zero, List.set_cons_succ] at kV')
      have hb31 : OldB [V] w28 w30 := oldset hw'; clear hw'; clear cV_0 cV_1 cV_2 cV_3 cV_4 cV_5 cV_6 cV_7 cV_8 cV_9 cV_10 cV_11 zV; clear qV qG; replace kV := kV'; replace kG := kG.oB hb31; replace hP := Own.oldB hP hb31 (fun g hg hm => by have a1 := Hpv.out; have a2 := Hpg.out; rw [hg] at a1 a2; simp at a1 a2 hm <;> omega); replace hRt := Rd.oldN hRt hb31 (fun hl b hb hm => by obtain ⟨_, h1, h2, _⟩ := Htb.out hl b hb; simp at hm <;> omega); replace HB := mO HB hb31; clear hb31; have qV := kV.1; have qG := kG.1; clear kV'
      iterate 3 refine pl ?_
      obtain ⟨cV_0, cV_1, cV_2, cV_3, cV_4, cV_5, cV_6, cV_7, cV_8, cV_9, cV_10, cV_11⟩ := cl12 kV; have zV := kV.2.2; refine pl ?_; refine listF_absw (fun w32 hw' => ?_); have kV' := cells_of hw' (Cells.set (i := 6) (kV))
      (try simp only [stC, mC, List.set_cons_zero, List.set_cons_succ] at kV')
      have hb33 : OldB [V] w30 w32 := oldset hw'; clear hw'; clear cV_0 cV_1 cV_2 cV_3 cV_4 cV_5 cV_6 cV_7 cV_8 cV_9 cV_10 cV_11 zV; clear qV qG; replace kV := kV'; replace kG := kG.oB hb33; replace hP := Own.oldB hP hb33 (fun g hg hm => by have a1 := Hpv.out; have a2 := Hpg.out; rw [hg] at a1 a2; simp at a1 a2 hm <;> omega); replace hRt := Rd.oldN hRt hb33 (fun hl b hb hm => by obtain ⟨_, h1, h2, _⟩ := Htb.out hl b hb; simp at hm <;> omega); replace HB := mO HB hb33; clear hb33; have qV := kV.1; have qG := kG.1; clear kV'; refine lsa fun s34 z' => ?_; clear z' sl0 sl2 sl3; refine lsn ?_
      repeat ((fail_if_success refine stp ?_); go_step)
      refine norm_F _ (res_none Tryz.results101) ?_
      have eS : step4 s = ⟨st.set t (x), tp, (tk : Int), pr, u, n, dn + 1, 0⟩ := by rw [HS.out]; simp [storeO, He.out]
      refine ⟨rfl, ?_, HB.out.lowN hNw (fun b hb => by rcases List.mem_cons.1 hb with h | h; omega; rcases List.mem_cons.1 h with h | h; omega; simp at h; exact (World.ownsRow.lt HP0.out b h).1), fun k hk => HB.out.block k (Hav.out k hk).1 (fun hm => by have h9 := (Hav.out k hk).2; rcases List.mem_cons.1 hm with h | h; exact h9.1 h; rcases List.mem_cons.1 h with h | h; exact h9.2.1 h; simp at h; exact h9.2.2.1 h)⟩; rw [eS]; exact ⟨G, sc, ta, tc, qa, qc, hNV, hNG, nVG, (by have hz := kV; rw [show st.length = (st.set t (x)).length from (List.length_set ..).symm] at hz; exact hz), kG, hP, Hpv.out, Hpg.out, hRt, fun hl b hb => Htb.out hl b hb, fun k hk => (Hav.out k hk).2⟩
    ·skip
     have g51 : ¬ op = 1 := by simpa using h51
     clear h51
     repeat ((fail_if_success refine stp ?_); go_step)
     refine region_F ?_; refine pl ?_; refine pl ?_; refine lsa fun s35 z' => ?_; replace sl0 := slg z' sl0; replace sl2 := slg z' sl2; replace sl3 := slg z' sl3; replace sl4 := slg z' sl4; replace sl44 := slg z' sl44; have sl55 := gu 55 z'; clear z' sl51; refine lsn ?_
     repeat ((fail_if_success refine stp ?_); go_step)
     refine cond_E sl55 (by decide) ?_ ?_ <;> (clear sl55; intro h55 sl55)
     ·skip
      have He := hid (show op = 2 by simpa using h55); clear h55; have G6 := hid (show ¬ (op = 6 ∧ tk = tp.length) by have e := He.out; omega); have G7 := hid (show ¬ (op = 7 ∧ pr.length = 200) by have e := He.out; omega)
      repeat ((fail_if_success refine stp ?_); go_step)
      refine region_F ?_
      iterate 3 refine pl ?_
      refine lsa fun s36 z' => ?_; replace sl0 := slg z' sl0; replace sl2 := slg z' sl2; replace sl3 := slg z' sl3; replace sl4 := gu 4 z'; clear z' sl44 sl55; refine lsn ?_
      repeat ((fail_if_success refine stp ?_); go_step)
      refine region_F ?_
      iterate 7 refine pl ?_
      refine py ?_; refine py ?_; refine pl ?_; refine lsa fun s37 z' => ?_; replace sl0 := slg z' sl0; replace sl2 := slg z' sl2; replace sl3 := slg z' sl3; replace sl4 := slg z' sl4; have sl111 := gu 111 z'; clear z'; refine lsn ?_
      repeat ((fail_if_success refine stp ?_); go_step)
      refine cond_E sl111 (by decide) ?_ ?_ <;> (clear sl111; intro h111 sl111)
      ·skip
       have HS := hid (H4.out G0.out G6.out G7.out (by simpa using h111)); clear h111
       repeat ((fail_if_success refine stp ?_); go_step)
       refine region_F ?_
       iterate 4 refine pl ?_
       have zV := kV.2.2; refine pl ?_; refine listF_absw (fun w38 hw' => ?_); have kV' := cells_of hw' (Cells.set (i := 7) (kV))
       (try simp only [stC, mC, List.set_cons_zero, List.set_cons_succ] at kV')
       have hb39 : OldB [V] w6 w38 := oldset hw'; clear hw'; clear cV_0 cV_1 cV_2 cV_3 cV_4 cV_5 cV_6 cV_7 cV_8 cV_9 cV_10 cV_11 zV; clear qV qG; replace kV := kV'; replace kG := kG.oB hb39; replace hP := Own.oldB hP hb39 (fun g hg hm => by have a1 := Hpv.out; have a2 := Hpg.out; rw [hg] at a1 a2; simp at a1 a2 hm <;> omega); replace hRt := Rd.oldN hRt hb39 (fun hl b hb hm => by obtain ⟨_, h1, h2, _⟩ := Htb.out hl b hb; simp at hm <;> omega); replace HB := mO HB hb39; clear hb39; have qV := kV.1; have qG := kG.1; clear kV'; refine lsa fun s40 z' => ?_; replace sl0 := slg z' sl0; replace sl2 := slg z' sl2; replace sl3 := slg z' sl3; replace sl4 := slg z' sl4; clear z' sl111; refine lsn ?_
       repeat ((fail_if_success refine stp ?_); go_step)
       refine region_F ?_
       iterate 4 refine pl ?_
       obtain ⟨cV_0, cV_1, cV_2, cV_3, cV_4, cV_5, cV_6, cV_7, cV_8, cV_9, cV_10, cV_11⟩ := cl12 kV; refine pl ?_; refine pl ?_; refine lsa fun s41 z' => ?_; replace sl0 := slg z' sl0; replace sl2 := slg z' sl2; replace sl3 := slg z' sl3; replace sl4 := slg z' sl4; have sl121 := gu 121 z'; clear z'; refine lsn ?_
       repeat ((fail_if_success refine stp ?_); go_step)
       refine cond_f ?_
       repeat ((fail_if_success refine stp ?_); go_step)
       refine norm_F _ (res_none Tryz.results101) ?_; refine ⟨rfl, ?_, HB.out.lowN hNw (fun b hb => by rcases List.mem_cons.1 hb with h | h; omega; rcases List.mem_cons.1 h with h | h; omega; simp at h; exact (World.ownsRow.lt HP0.out b h).1), fun k hk => HB.out.block k (Hav.out k hk).1 (fun hm => by have h9 := (Hav.out k hk).2; rcases List.mem_cons.1 hm with h | h; exact h9.1 h; rcases List.mem_cons.1 h with h | h; exact h9.2.1 h; simp at h; exact h9.2.2.1 h)⟩; rw [HS.out]; exact ⟨G, sc, ta, tc, qa, qc, hNV, hNG, nVG, kV, kG, hP, Hpv.out, Hpg.out, hRt, fun hl b hb => Htb.out hl b hb, fun k hk => (Hav.out k hk).2⟩
      ·skip
       have HS := hid (H5.out G0.out G6.out G7.out (by simpa using h111)); clear h111
       repeat ((fail_if_success refine stp ?_); go_step)
       refine region_F ?_
       iterate 6 refine pl ?_
       refine lsa fun s42 z' => ?_; replace sl0 := slg z' sl0; replace sl2 := slg z' sl2; replace sl3 := slg z' sl3; replace sl4 := slg z' sl4; have sl121 := gu 121 z'; clear z' sl111; refine lsn ?_
       repeat ((fail_if_success refine stp ?_); go_step)
       refine cond_t ?_
       repeat ((fail_if_success refine stp ?_); go_step)
       refine region_F ?_; refine pl ?_; refine cal (oadd_any V G sc ta tp.length tc (tk : Int) qa pr.length qc tm (p : Int) dn 0 op nx f t st _ kV nVG kG hst hf ht x y Hx.out Hy.out hxb hyb) ?_; rintro e w43 ⟨rfl, kV', kG', hb44⟩; replace hb44 := OldB.subset (Cs := [V, G]) hb44 (by simp); refine ⟨_, rfl, ?_⟩; clear cV_0 cV_1 cV_2 cV_3 cV_4 cV_5 cV_6 cV_7 cV_8 cV_9 cV_10 cV_11; clear qV qG; replace kV := kV'; replace kG := kG'; replace hP := Own.oldB hP hb44 (fun g hg hm => by have a1 := Hpv.out; have a2 := Hpg.out; rw [hg] at a1 a2; simp at a1 a2 hm <;> omega); replace hRt := Rd.oldN hRt hb44 (fun hl b hb hm => by obtain ⟨_, h1, h2, _⟩ := Htb.out hl b hb; simp at hm <;> omega); replace HB := mO HB hb44; clear hb44; have qV := kV.1; have qG := kG.1; refine lsa fun s45 z' => ?_; replace sl0 := slg z' sl0; replace sl2 := slg z' sl2; replace sl3 := slg z' sl3; clear z' sl4 sl121
       refine lsn ?_
       repeat ((fail_if_success refine stp ?_); go_step)
       refine region_F ?_
       iterate 9 refine pl ?_
       obtain ⟨cV_0, cV_1, cV_2, cV_3, cV_4, cV_5, cV_6, cV_7, cV_8, cV_9, cV_10, cV_11⟩ := cl12 kV
       iterate 5 refine pl ?_
       have zV := kV.2.2; refine pl ?_; refine listF_absw (fun w46 hw' => ?_); have kV' := cells_of hw' (Cells.set (i := 5) (kV))
       (try simp only [stC, mC, List.set_cons_zero, List.set_cons_succ] at kV')
       have hb47 : OldB [V] w43 w46 := oldset hw'; clear hw'; clear cV_0 cV_1 cV_2 cV_3 cV_4 cV_5 cV_6 cV_7 cV_8 cV_9 cV_10 cV_11 zV; clear qV qG; replace kV := kV'; replace kG := kG.oB hb47; replace hP := Own.oldB hP hb47 (fun g hg hm => by have a1 := Hpv.out; have a2 := Hpg.out; rw [hg] at a1 a2; simp at a1 a2 hm <;> omega); replace hRt := Rd.oldN hRt hb47 (fun hl b hb hm => by obtain ⟨_, h1, h2, _⟩ := Htb.out hl b hb; simp at hm <;> omega); replace HB := mO HB hb47; clear hb47; have qV := kV.1; have qG := kG.1; clear kV'
       iterate 3 refine pl ?_
       obtain ⟨cV_0, cV_1, cV_2, cV_3, cV_4, cV_5, cV_6, cV_7, cV_8, cV_9, cV_10, cV_11⟩ := cl12 kV; have zV := kV.2.2; refine pl ?_; refine listF_absw (fun w48 hw' => ?_); have kV' := cells_of hw' (Cells.set (i := 4) (kV))
       (try simp only [stC, mC, List.set_cons_zero, List.set_cons_succ] at kV')
       have hb49 : OldB [V] w46 w48 := oldset hw'; clear hw'; clear cV_0 cV_1 cV_2 cV_3 cV_4 cV_5 cV_6 cV_7 cV_8 cV_9 cV_10 cV_11 zV; clear qV qG; replace kV := kV'; replace kG := kG.oB hb49; replace hP := Own.oldB hP hb49 (fun g hg hm => by have a1 := Hpv.out; have a2 := Hpg.out; rw [hg] at a1 a2; simp at a1 a2 hm <;> omega); replace hRt := Rd.oldN hRt hb49 (fun hl b hb hm => by obtain ⟨_, h1, h2, _⟩ := Htb.out hl b hb; simp at hm <;> omega); replace HB := mO HB hb49; clear hb49; have qV := kV.1; have qG := kG.1; clear kV'
       iterate 3 refine pl ?_
       obtain ⟨cV_0, cV_1, cV_2, cV_3, cV_4, cV_5, cV_6, cV_7, cV_8, cV_9, cV_10, cV_11⟩ := cl12 kV; have zV := kV.2.2; refine pl ?_; refine listF_absw (fun w50 hw' => ?_); have kV' := cells_of hw' (Cells.set (i := 6) (kV))
       (try simp only [stC, mC, List.set_cons_zero, List.set_cons_succ] at kV')
       have hb51 : OldB [V] w48 w50 := oldset hw'; clear hw'; clear cV_0 cV_1 cV_2 cV_3 cV_4 cV_5 cV_6 cV_7 cV_8 cV_9 cV_10 cV_11 zV; clear qV qG; replace kV := kV'; replace kG := kG.oB hb51; replace hP := Own.oldB hP hb51 (fun g hg hm => by have a1 := Hpv.out; have a2 := Hpg.out; rw [hg] at a1 a2; simp at a1 a2 hm <;> omega); replace hRt := Rd.oldN hRt hb51 (fun hl b hb hm => by obtain ⟨_, h1, h2, _⟩ := Htb.out hl b hb; simp at hm <;> omega); replace HB := mO HB hb51; clear hb51; have qV := kV.1; have qG := kG.1; clear kV'; refine lsa fun s52 z' => ?_; clear z' sl0 sl2 sl3; refine lsn ?_
       repeat ((fail_if_success refine stp ?_); go_step)
       refine norm_F _ (res_none Tryz.results101) ?_
       have eS : step4 s = ⟨st.set t ((x + y) % 16777216), tp, (tk : Int), pr, u, n, dn + 1, 0⟩ := by rw [HS.out]; simp [storeO, He.out]
       refine ⟨rfl, ?_, HB.out.lowN hNw (fun b hb => by rcases List.mem_cons.1 hb with h | h; omega; rcases List.mem_cons.1 h with h | h; omega; simp at h; exact (World.ownsRow.lt HP0.out b h).1), fun k hk => HB.out.block k (Hav.out k hk).1 (fun hm => by have h9 := (Hav.out k hk).2; rcases List.mem_cons.1 hm with h | h; exact h9.1 h; rcases List.mem_cons.1 h with h | h; exact h9.2.1 h; simp at h; exact h9.2.2.1 h)⟩; rw [eS]; exact ⟨G, sc, ta, tc, qa, qc, hNV, hNG, nVG, (by have hz := kV; rw [show st.length = (st.set t ((x + y) % 16777216)).length from (List.length_set ..).symm] at hz; exact hz), kG, hP, Hpv.out, Hpg.out, hRt, fun hl b hb => Htb.out hl b hb, fun k hk => (Hav.out k hk).2⟩
     ·skip
      have g55 : ¬ op = 2 := by simpa using h55
      clear h55
      repeat ((fail_if_success refine stp ?_); go_step)
      refine region_F ?_; refine pl ?_; refine pl ?_; refine lsa fun s53 z' => ?_; replace sl0 := slg z' sl0; replace sl2 := slg z' sl2; replace sl3 := slg z' sl3; replace sl4 := slg z' sl4; replace sl44 := slg z' sl44; have sl59 := gu 59 z'; clear z' sl55; refine lsn ?_
      repeat ((fail_if_success refine stp ?_); go_step)
      refine cond_E sl59 (by decide) ?_ ?_ <;> (clear sl59; intro h59 sl59)
      ·skip
       have He := hid (show op = 3 by simpa using h59); clear h59; have G6 := hid (show ¬ (op = 6 ∧ tk = tp.length) by have e := He.out; omega); have G7 := hid (show ¬ (op = 7 ∧ pr.length = 200) by have e := He.out; omega)
       repeat ((fail_if_success refine stp ?_); go_step)
       refine region_F ?_
       iterate 3 refine pl ?_
       refine lsa fun s54 z' => ?_; replace sl0 := slg z' sl0; replace sl2 := slg z' sl2; replace sl3 := slg z' sl3; replace sl4 := gu 4 z'; clear z' sl44 sl59; refine lsn ?_
       repeat ((fail_if_success refine stp ?_); go_step)
       refine region_F ?_
       iterate 7 refine pl ?_
       refine py ?_; refine py ?_; refine pl ?_; refine lsa fun s55 z' => ?_; replace sl0 := slg z' sl0; replace sl2 := slg z' sl2; replace sl3 := slg z' sl3; replace sl4 := slg z' sl4; have sl111 := gu 111 z'; clear z'; refine lsn ?_
       repeat ((fail_if_success refine stp ?_); go_step)
       refine cond_E sl111 (by decide) ?_ ?_ <;> (clear sl111; intro h111 sl111)
       ·skip
        have HS := hid (H4.out G0.out G6.out G7.out (by simpa using h111)); clear h111
        repeat ((fail_if_success refine stp ?_); go_step)
        refine region_F ?_
        iterate 4 refine pl ?_
        have zV := kV.2.2; refine pl ?_; refine listF_absw (fun w56 hw' => ?_); have kV' := cells_of hw' (Cells.set (i := 7) (kV))
        (try simp only [stC, mC, List.set_cons_zero, List.set_cons_succ] at kV')
        have hb57 : OldB [V] w6 w56 := oldset hw'; clear hw'; clear cV_0 cV_1 cV_2 cV_3 cV_4 cV_5 cV_6 cV_7 cV_8 cV_9 cV_10 cV_11 zV; clear qV qG; replace kV := kV'; replace kG := kG.oB hb57; replace hP := Own.oldB hP hb57 (fun g hg hm => by have a1 := Hpv.out; have a2 := Hpg.out; rw [hg] at a1 a2; simp at a1 a2 hm <;> omega); replace hRt := Rd.oldN hRt hb57 (fun hl b hb hm => by obtain ⟨_, h1, h2, _⟩ := Htb.out hl b hb; simp at hm <;> omega); replace HB := mO HB hb57; clear hb57; have qV := kV.1; have qG := kG.1; clear kV'; refine lsa fun s58 z' => ?_; replace sl0 := slg z' sl0; replace sl2 := slg z' sl2; replace sl3 := slg z' sl3; replace sl4 := slg z' sl4; clear z' sl111; refine lsn ?_
        repeat ((fail_if_success refine stp ?_); go_step)
        refine region_F ?_
        iterate 4 refine pl ?_
        obtain ⟨cV_0, cV_1, cV_2, cV_3, cV_4, cV_5, cV_6, cV_7, cV_8, cV_9, cV_10, cV_11⟩ := cl12 kV; refine pl ?_; refine pl ?_; refine lsa fun s59 z' => ?_; replace sl0 := slg z' sl0; replace sl2 := slg z' sl2; replace sl3 := slg z' sl3; replace sl4 := slg z' sl4; have sl121 := gu 121 z'; clear z'; refine lsn ?_
        repeat ((fail_if_success refine stp ?_); go_step)
        refine cond_f ?_
        repeat ((fail_if_success refine stp ?_); go_step)
        refine norm_F _ (res_none Tryz.results101) ?_; refine ⟨rfl, ?_, HB.out.lowN hNw (fun b hb => by rcases List.mem_cons.1 hb with h | h; omega; rcases List.mem_cons.1 h with h | h; omega; simp at h; exact (World.ownsRow.lt HP0.out b h).1), fun k hk => HB.out.block k (Hav.out k hk).1 (fun hm => by have h9 := (Hav.out k hk).2; rcases List.mem_cons.1 hm with h | h; exact h9.1 h; rcases List.mem_cons.1 h with h | h; exact h9.2.1 h; simp at h; exact h9.2.2.1 h)⟩; rw [HS.out]; exact ⟨G, sc, ta, tc, qa, qc, hNV, hNG, nVG, kV, kG, hP, Hpv.out, Hpg.out, hRt, fun hl b hb => Htb.out hl b hb, fun k hk => (Hav.out k hk).2⟩
       ·skip
        have HS := hid (H5.out G0.out G6.out G7.out (by simpa using h111)); clear h111
        repeat ((fail_if_success refine stp ?_); go_step)
        refine region_F ?_
        iterate 6 refine pl ?_
        refine lsa fun s60 z' => ?_; replace sl0 := slg z' sl0; replace sl2 := slg z' sl2; replace sl3 := slg z' sl3; replace sl4 := slg z' sl4; have sl121 := gu 121 z'; clear z' sl111; refine lsn ?_
        repeat ((fail_if_success refine stp ?_); go_step)
        refine cond_t ?_
        repeat ((fail_if_success refine stp ?_); go_step)
        refine region_F ?_; refine pl ?_; refine cal (osub_any V G sc ta tp.length tc (tk : Int) qa pr.length qc tm (p : Int) dn 0 op nx f t st _ kV nVG kG hst hf ht x y Hx.out Hy.out hxb hyb) ?_; rintro e w61 ⟨rfl, kV', kG', hb62⟩; replace hb62 := OldB.subset (Cs := [V, G]) hb62 (by simp); refine ⟨_, rfl, ?_⟩; clear cV_0 cV_1 cV_2 cV_3 cV_4 cV_5 cV_6 cV_7 cV_8 cV_9 cV_10 cV_11; clear qV qG; replace kV := kV'; replace kG := kG'; replace hP := Own.oldB hP hb62 (fun g hg hm => by have a1 := Hpv.out; have a2 := Hpg.out; rw [hg] at a1 a2; simp at a1 a2 hm <;> omega); replace hRt := Rd.oldN hRt hb62 (fun hl b hb hm => by obtain ⟨_, h1, h2, _⟩ := Htb.out hl b hb; simp at hm <;> omega); replace HB := mO HB hb62; clear hb62; have qV := kV.1; have qG := kG.1; refine lsa fun s63 z' => ?_; replace sl0 := slg z' sl0; replace sl2 := slg z' sl2; replace sl3 := slg z' sl3; clear z' sl4 sl121
        refine lsn ?_
        repeat ((fail_if_success refine stp ?_); go_step)
        refine region_F ?_
        iterate 9 refine pl ?_
        obtain ⟨cV_0, cV_1, cV_2, cV_3, cV_4, cV_5, cV_6, cV_7, cV_8, cV_9, cV_10, cV_11⟩ := cl12 kV
        iterate 5 refine pl ?_
        have zV := kV.2.2; refine pl ?_; refine listF_absw (fun w64 hw' => ?_); have kV' := cells_of hw' (Cells.set (i := 5) (kV))
        (try simp only [stC, mC, List.set_cons_zero, List.set_cons_succ] at kV')
        have hb65 : OldB [V] w61 w64 := oldset hw'; clear hw'; clear cV_0 cV_1 cV_2 cV_3 cV_4 cV_5 cV_6 cV_7 cV_8 cV_9 cV_10 cV_11 zV; clear qV qG; replace kV := kV'; replace kG := kG.oB hb65; replace hP := Own.oldB hP hb65 (fun g hg hm => by have a1 := Hpv.out; have a2 := Hpg.out; rw [hg] at a1 a2; simp at a1 a2 hm <;> omega); replace hRt := Rd.oldN hRt hb65 (fun hl b hb hm => by obtain ⟨_, h1, h2, _⟩ := Htb.out hl b hb; simp at hm <;> omega); replace HB := mO HB hb65; clear hb65; have qV := kV.1; have qG := kG.1; clear kV'
        iterate 3 refine pl ?_
        obtain ⟨cV_0, cV_1, cV_2, cV_3, cV_4, cV_5, cV_6, cV_7, cV_8, cV_9, cV_10, cV_11⟩ := cl12 kV; have zV := kV.2.2; refine pl ?_; refine listF_absw (fun w66 hw' => ?_); have kV' := cells_of hw' (Cells.set (i := 4) (kV))
        (try simp only [stC, mC, List.set_cons_zero, List.set_cons_succ] at kV')
        have hb67 : OldB [V] w64 w66 := oldset hw'; clear hw'; clear cV_0 cV_1 cV_2 cV_3 cV_4 cV_5 cV_6 cV_7 cV_8 cV_9 cV_10 cV_11 zV; clear qV qG; replace kV := kV'; replace kG := kG.oB hb67; replace hP := Own.oldB hP hb67 (fun g hg hm => by have a1 := Hpv.out; have a2 := Hpg.out; rw [hg] at a1 a2; simp at a1 a2 hm <;> omega); replace hRt := Rd.oldN hRt hb67 (fun hl b hb hm => by obtain ⟨_, h1, h2, _⟩ := Htb.out hl b hb; simp at hm <;> omega); replace HB := mO HB hb67; clear hb67; have qV := kV.1; have qG := kG.1; clear kV'
        iterate 3 refine pl ?_
        obtain ⟨cV_0, cV_1, cV_2, cV_3, cV_4, cV_5, cV_6, cV_7, cV_8, cV_9, cV_10, cV_11⟩ := cl12 kV; have zV := kV.2.2; refine pl ?_; refine listF_absw (fun w68 hw' => ?_); have kV' := cells_of hw' (Cells.set (i := 6) (kV))
        (try simp only [stC, mC, List.set_cons_zero, List.set_cons_succ] at kV')
        have hb69 : OldB [V] w66 w68 := oldset hw'; clear hw'; clear cV_0 cV_1 cV_2 cV_3 cV_4 cV_5 cV_6 cV_7 cV_8 cV_9 cV_10 cV_11 zV; clear qV qG; replace kV := kV'; replace kG := kG.oB hb69; replace hP := Own.oldB hP hb69 (fun g hg hm => by have a1 := Hpv.out; have a2 := Hpg.out; rw [hg] at a1 a2; simp at a1 a2 hm <;> omega); replace hRt := Rd.oldN hRt hb69 (fun hl b hb hm => by obtain ⟨_, h1, h2, _⟩ := Htb.out hl b hb; simp at hm <;> omega); replace HB := mO HB hb69; clear hb69; have qV := kV.1; have qG := kG.1; clear kV'; refine lsa fun s70 z' => ?_; clear z' sl0 sl2 sl3; refine lsn ?_
        repeat ((fail_if_success refine stp ?_); go_step)
        refine norm_F _ (res_none Tryz.results101) ?_
        have eS : step4 s = ⟨st.set t ((y - x) % 16777216), tp, (tk : Int), pr, u, n, dn + 1, 0⟩ := by rw [HS.out]; simp [storeO, He.out]
        refine ⟨rfl, ?_, HB.out.lowN hNw (fun b hb => by rcases List.mem_cons.1 hb with h | h; omega; rcases List.mem_cons.1 h with h | h; omega; simp at h; exact (World.ownsRow.lt HP0.out b h).1), fun k hk => HB.out.block k (Hav.out k hk).1 (fun hm => by have h9 := (Hav.out k hk).2; rcases List.mem_cons.1 hm with h | h; exact h9.1 h; rcases List.mem_cons.1 h with h | h; exact h9.2.1 h; simp at h; exact h9.2.2.1 h)⟩; rw [eS]; exact ⟨G, sc, ta, tc, qa, qc, hNV, hNG, nVG, (by have hz := kV; rw [show st.length = (st.set t ((y - x) % 16777216)).length from (List.length_set ..).symm] at hz; exact hz), kG, hP, Hpv.out, Hpg.out, hRt, fun hl b hb => Htb.out hl b hb, fun k hk => (Hav.out k hk).2⟩
      ·skip
       have g59 : ¬ op = 3 := by simpa using h59
       clear h59
       repeat ((fail_if_success refine stp ?_); go_step)
       refine region_F ?_; refine pl ?_; refine pl ?_; refine lsa fun s71 z' => ?_; replace sl0 := slg z' sl0; replace sl2 := slg z' sl2; replace sl3 := slg z' sl3; replace sl4 := slg z' sl4; replace sl44 := slg z' sl44; have sl63 := gu 63 z'; clear z' sl59; refine lsn ?_
       repeat ((fail_if_success refine stp ?_); go_step)
       refine cond_E sl63 (by decide) ?_ ?_ <;> (clear sl63; intro h63 sl63)
       ·skip
        have He := hid (show op = 4 by simpa using h63); clear h63; have G6 := hid (show ¬ (op = 6 ∧ tk = tp.length) by have e := He.out; omega); have G7 := hid (show ¬ (op = 7 ∧ pr.length = 200) by have e := He.out; omega)
        repeat ((fail_if_success refine stp ?_); go_step)
        refine region_F ?_
        iterate 3 refine pl ?_
        refine lsa fun s72 z' => ?_; replace sl0 := slg z' sl0; replace sl2 := slg z' sl2; replace sl3 := slg z' sl3; replace sl4 := gu 4 z'; clear z' sl44 sl63; refine lsn ?_
        repeat ((fail_if_success refine stp ?_); go_step)
        refine region_F ?_
        iterate 7 refine pl ?_
        refine py ?_; refine py ?_; refine pl ?_; refine lsa fun s73 z' => ?_; replace sl0 := slg z' sl0; replace sl2 := slg z' sl2; replace sl3 := slg z' sl3; replace sl4 := slg z' sl4; have sl111 := gu 111 z'; clear z'; refine lsn ?_
        repeat ((fail_if_success refine stp ?_); go_step)
        refine cond_E sl111 (by decide) ?_ ?_ <;> (clear sl111; intro h111 sl111)
        ·skip
         have HS := hid (H4.out G0.out G6.out G7.out (by simpa using h111)); clear h111
         repeat ((fail_if_success refine stp ?_); go_step)
         refine region_F ?_
         iterate 4 refine pl ?_
         have zV := kV.2.2; refine pl ?_; refine listF_absw (fun w74 hw' => ?_); have kV' := cells_of hw' (Cells.set (i := 7) (kV))
         (try simp only [stC, mC, List.set_cons_zero, List.set_cons_succ] at kV')
         have hb75 : OldB [V] w6 w74 := oldset hw'; clear hw'; clear cV_0 cV_1 cV_2 cV_3 cV_4 cV_5 cV_6 cV_7 cV_8 cV_9 cV_10 cV_11 zV; clear qV qG; replace kV := kV'; replace kG := kG.oB hb75; replace hP := Own.oldB hP hb75 (fun g hg hm => by have a1 := Hpv.out; have a2 := Hpg.out; rw [hg] at a1 a2; simp at a1 a2 hm <;> omega); replace hRt := Rd.oldN hRt hb75 (fun hl b hb hm => by obtain ⟨_, h1, h2, _⟩ := Htb.out hl b hb; simp at hm <;> omega); replace HB := mO HB hb75; clear hb75; have qV := kV.1; have qG := kG.1; clear kV'; refine lsa fun s76 z' => ?_; replace sl0 := slg z' sl0; replace sl2 := slg z' sl2; replace sl3 := slg z' sl3; replace sl4 := slg z' sl4; clear z' sl111; refine lsn ?_
         repeat ((fail_if_success refine stp ?_); go_step)
         refine region_F ?_
         iterate 4 refine pl ?_
         obtain ⟨cV_0, cV_1, cV_2, cV_3, cV_4, cV_5, cV_6, cV_7, cV_8, cV_9, cV_10, cV_11⟩ := cl12 kV; refine pl ?_; refine pl ?_; refine lsa fun s77 z' => ?_; replace sl0 := slg z' sl0; replace sl2 := slg z' sl2; replace sl3 := slg z' sl3; replace sl4 := slg z' sl4; have sl121 := gu 121 z'; clear z'; refine lsn ?_
         repeat ((fail_if_success refine stp ?_); go_step)
         refine cond_f ?_
         repeat ((fail_if_success refine stp ?_); go_step)
         refine norm_F _ (res_none Tryz.results101) ?_; refine ⟨rfl, ?_, HB.out.lowN hNw (fun b hb => by rcases List.mem_cons.1 hb with h | h; omega; rcases List.mem_cons.1 h with h | h; omega; simp at h; exact (World.ownsRow.lt HP0.out b h).1), fun k hk => HB.out.block k (Hav.out k hk).1 (fun hm => by have h9 := (Hav.out k hk).2; rcases List.mem_cons.1 hm with h | h; exact h9.1 h; rcases List.mem_cons.1 h with h | h; exact h9.2.1 h; simp at h; exact h9.2.2.1 h)⟩; rw [HS.out]; exact ⟨G, sc, ta, tc, qa, qc, hNV, hNG, nVG, kV, kG, hP, Hpv.out, Hpg.out, hRt, fun hl b hb => Htb.out hl b hb, fun k hk => (Hav.out k hk).2⟩
        ·skip
         have HS := hid (H5.out G0.out G6.out G7.out (by simpa using h111)); clear h111
         repeat ((fail_if_success refine stp ?_); go_step)
         refine region_F ?_
         iterate 6 refine pl ?_
         refine lsa fun s78 z' => ?_; replace sl0 := slg z' sl0; replace sl2 := slg z' sl2; replace sl3 := slg z' sl3; replace sl4 := slg z' sl4; have sl121 := gu 121 z'; clear z' sl111; refine lsn ?_
         repeat ((fail_if_success refine stp ?_); go_step)
         refine cond_t ?_
         repeat ((fail_if_success refine stp ?_); go_step)
         refine region_F ?_; refine pl ?_; refine cal (omul_any V G sc ta tp.length tc (tk : Int) qa pr.length qc tm (p : Int) dn 0 op nx f t st _ kV nVG kG hst hf ht x y Hx.out Hy.out hxb hyb) ?_; rintro e w79 ⟨rfl, kV', kG', hb80⟩; replace hb80 := OldB.subset (Cs := [V, G]) hb80 (by simp); refine ⟨_, rfl, ?_⟩; clear cV_0 cV_1 cV_2 cV_3 cV_4 cV_5 cV_6 cV_7 cV_8 cV_9 cV_10 cV_11; clear qV qG; replace kV := kV'; replace kG := kG'; replace hP := Own.oldB hP hb80 (fun g hg hm => by have a1 := Hpv.out; have a2 := Hpg.out; rw [hg] at a1 a2; simp at a1 a2 hm <;> omega); replace hRt := Rd.oldN hRt hb80 (fun hl b hb hm => by obtain ⟨_, h1, h2, _⟩ := Htb.out hl b hb; simp at hm <;> omega); replace HB := mO HB hb80; clear hb80; have qV := kV.1; have qG := kG.1; refine lsa fun s81 z' => ?_; replace sl0 := slg z' sl0; replace sl2 := slg z' sl2; replace sl3 := slg z' sl3; clear z' sl4 sl121
         refine lsn ?_
         repeat ((fail_if_success refine stp ?_); go_step)
         refine region_F ?_
         iterate 9 refine pl ?_
         obtain ⟨cV_0, cV_1, cV_2, cV_3, cV_4, cV_5, cV_6, cV_7, cV_8, cV_9, cV_10, cV_11⟩ := cl12 kV
         iterate 5 refine pl ?_
         have zV := kV.2.2; refine pl ?_; refine listF_absw (fun w82 hw' => ?_); have kV' := cells_of hw' (Cells.set (i := 5) (kV))
         (try simp only [stC, mC, List.set_cons_zero, List.set_cons_succ] at kV')
         have hb83 : OldB [V] w79 w82 := oldset hw'; clear hw'; clear cV_0 cV_1 cV_2 cV_3 cV_4 cV_5 cV_6 cV_7 cV_8 cV_9 cV_10 cV_11 zV; clear qV qG; replace kV := kV'; replace kG := kG.oB hb83; replace hP := Own.oldB hP hb83 (fun g hg hm => by have a1 := Hpv.out; have a2 := Hpg.out; rw [hg] at a1 a2; simp at a1 a2 hm <;> omega); replace hRt := Rd.oldN hRt hb83 (fun hl b hb hm => by obtain ⟨_, h1, h2, _⟩ := Htb.out hl b hb; simp at hm <;> omega); replace HB := mO HB hb83; clear hb83; have qV := kV.1; have qG := kG.1; clear kV'
         iterate 3 refine pl ?_
         obtain ⟨cV_0, cV_1, cV_2, cV_3, cV_4, cV_5, cV_6, cV_7, cV_8, cV_9, cV_10, cV_11⟩ := cl12 kV; have zV := kV.2.2; refine pl ?_; refine listF_absw (fun w84 hw' => ?_); have kV' := cells_of hw' (Cells.set (i := 4) (kV))
         (try simp only [stC, mC, List.set_cons_zero, List.set_cons_succ] at kV')
         have hb85 : OldB [V] w82 w84 := oldset hw'; clear hw'; clear cV_0 cV_1 cV_2 cV_3 cV_4 cV_5 cV_6 cV_7 cV_8 cV_9 cV_10 cV_11 zV; clear qV qG; replace kV := kV'; replace kG := kG.oB hb85; replace hP := Own.oldB hP hb85 (fun g hg hm => by have a1 := Hpv.out; have a2 := Hpg.out; rw [hg] at a1 a2; simp at a1 a2 hm <;> omega); replace hRt := Rd.oldN hRt hb85 (fun hl b hb hm => by obtain ⟨_, h1, h2, _⟩ := Htb.out hl b hb; simp at hm <;> omega); replace HB := mO HB hb85; clear hb85; have qV := kV.1; have qG := kG.1; clear kV'
         iterate 3 refine pl ?_
         obtain ⟨cV_0, cV_1, cV_2, cV_3, cV_4, cV_5, cV_6, cV_7, cV_8, cV_9, cV_10, cV_11⟩ := cl12 kV; have zV := kV.2.2; refine pl ?_; refine listF_absw (fun w86 hw' => ?_); have kV' := cells_of hw' (Cells.set (i := 6) (kV))
         (try simp only [stC, mC, List.set_cons_zero, List.set_cons_succ] at kV')
         have hb87 : OldB [V] w84 w86 := oldset hw'; clear hw'; clear cV_0 cV_1 cV_2 cV_3 cV_4 cV_5 cV_6 cV_7 cV_8 cV_9 cV_10 cV_11 zV; clear qV qG; replace kV := kV'; replace kG := kG.oB hb87; replace hP := Own.oldB hP hb87 (fun g hg hm => by have a1 := Hpv.out; have a2 := Hpg.out; rw [hg] at a1 a2; simp at a1 a2 hm <;> omega); replace hRt := Rd.oldN hRt hb87 (fun hl b hb hm => by obtain ⟨_, h1, h2, _⟩ := Htb.out hl b hb; simp at hm <;> omega); replace HB := mO HB hb87; clear hb87; have qV := kV.1; have qG := kG.1; clear kV'; refine lsa fun s88 z' => ?_; clear z' sl0 sl2 sl3; refine lsn ?_
         repeat ((fail_if_success refine stp ?_); go_step)
         refine norm_F _ (res_none Tryz.results101) ?_
         have eS : step4 s = ⟨st.set t (prodI x y), tp, (tk : Int), pr, u, n, dn + 1, 0⟩ := by rw [HS.out]; simp [storeO, He.out]
         refine ⟨rfl, ?_, HB.out.lowN hNw (fun b hb => by rcases List.mem_cons.1 hb with h | h; omega; rcases List.mem_cons.1 h with h | h; omega; simp at h; exact (World.ownsRow.lt HP0.out b h).1), fun k hk => HB.out.block k (Hav.out k hk).1 (fun hm => by have h9 := (Hav.out k hk).2; rcases List.mem_cons.1 hm with h | h; exact h9.1 h; rcases List.mem_cons.1 h with h | h; exact h9.2.1 h; simp at h; exact h9.2.2.1 h)⟩; rw [eS]; exact ⟨G, sc, ta, tc, qa, qc, hNV, hNG, nVG, (by have hz := kV; rw [show st.length = (st.set t (prodI x y)).length from (List.length_set ..).symm] at hz; exact hz), kG, hP, Hpv.out, Hpg.out, hRt, fun hl b hb => Htb.out hl b hb, fun k hk => (Hav.out k hk).2⟩
       ·skip
        have g63 : ¬ op = 4 := by simpa using h63
        clear h63
        repeat ((fail_if_success refine stp ?_); go_step)
        refine region_F ?_; refine pl ?_; refine pl ?_; refine lsa fun s89 z' => ?_; replace sl0 := slg z' sl0; replace sl2 := slg z' sl2; replace sl3 := slg z' sl3; replace sl4 := slg z' sl4; replace sl44 := slg z' sl44; have sl67 := gu 67 z'; clear z' sl63; refine lsn ?_
        repeat ((fail_if_success refine stp ?_); go_step)
        refine cond_E sl67 (by decide) ?_ ?_ <;> (clear sl67; intro h67 sl67)
        ·skip
         have He := hid (show op = 6 by simpa using h67); clear h67; have G7 := hid (show ¬ (op = 7 ∧ pr.length = 200) by have e := He.out; omega)
         repeat ((fail_if_success refine stp ?_); go_step)
         refine region_F ?_
         iterate 3 refine pl ?_
         refine lsa fun s90 z' => ?_; replace sl0 := slg z' sl0; replace sl2 := slg z' sl2; replace sl3 := slg z' sl3; replace sl4 := gu 4 z'; clear z' sl44 sl67; refine lsn ?_
         repeat ((fail_if_success refine stp ?_); go_step)
         refine regionR_F [] [] [] [.q [], .q [], .q [], .q [], .q [], .q [], .q [], .q [], .q [], .q [], .q []] [?v13_0, ?v13_1, ?v13_2, ?v13_3, ?v13_4, ?v13_5, ?v13_6, ?v13_7, ?v13_8, ?v13_9, ?v13_10] [fun _ => [], fun _ => [], fun _ => [], fun _ => [], fun _ => [], fun _ => [], fun _ => [], fun _ => [], fun _ => [], fun _ => [], fun _ => []] (by kernel_rfl) (by kernel_rfl) (by kernel_rfl) (by kernel_rfl) (by kernel_rfl) (by first | exact List.nodup_nil | exact List.nodup_singleton _ | (simp; done) | (simp; omega)) bc_nil ?walk13 ?dep13
         case walk13 =>
          iterate 11 refine rq ?_
          refine walkR_nil (fun X hX w91 hwz hcz => ?_); clear hX hcz
          (try clear X)
          skip; have hb92 := hwz.unDrew; clear hwz; clear cV_0 cV_1 cV_2 cV_3 cV_4 cV_5 cV_6 cV_7 cV_8 cV_9 cV_10 cV_11; clear qV qG; replace kV := kV.oB hb92; replace kG := kG.oB hb92; replace hP := Own.oldB hP hb92 (fun g hg hm => by have a1 := Hpv.out; have a2 := Hpg.out; rw [hg] at a1 a2; simp at a1 a2 hm <;> omega); replace hRt := Rd.oldN hRt hb92 (fun hl b hb hm => by obtain ⟨_, h1, h2, _⟩ := Htb.out hl b hb; simp at hm <;> omega); replace HB := mO HB hb92; clear hb92; have qV := kV.1; have qG := kG.1; refine pl ?_; refine lsa fun s93 z' => ?_; replace sl0 := slg z' sl0; replace sl2 := slg z' sl2; replace sl3 := slg z' sl3; replace sl4 := slg z' sl4; have sl82 := gu 82 z'; clear z'; refine lsn ?_
          repeat ((fail_if_success refine stp ?_); go_step)
          refine cond_E sl82 (by decide) ?_ ?_ <;> (clear sl82; intro h82 sl82)
          ·skip
           have HS := hid (H2.out G0.out ⟨He.out, by have h := h82; simp at h; omega⟩); clear h82
           repeat ((fail_if_success refine stp ?_); go_step)
           refine region_F ?_
           iterate 4 refine pl ?_
           obtain ⟨cV_0, cV_1, cV_2, cV_3, cV_4, cV_5, cV_6, cV_7, cV_8, cV_9, cV_10, cV_11⟩ := cl12 kV; have zV := kV.2.2; refine pl ?_; refine listF_absw (fun w94 hw' => ?_); have kV' := cells_of hw' (Cells.set (i := 7) (kV))
           (try simp only [stC, mC, List.set_cons_zero, List.set_cons_succ] at kV')
           have hb95 : OldB [V] w91 w94 := oldset hw'; clear hw'; clear cV_0 cV_1 cV_2 cV_3 cV_4 cV_5 cV_6 cV_7 cV_8 cV_9 cV_10 cV_11 zV; clear qV qG; replace kV := kV'; replace kG := kG.oB hb95; replace hP := Own.oldB hP hb95 (fun g hg hm => by have a1 := Hpv.out; have a2 := Hpg.out; rw [hg] at a1 a2; simp at a1 a2 hm <;> omega); replace hRt := Rd.oldN hRt hb95 (fun hl b hb hm => by obtain ⟨_, h1, h2, _⟩ := Htb.out hl b hb; simp at hm <;> omega); replace HB := mO HB hb95; clear hb95; have qV := kV.1; have qG := kG.1; clear kV'; refine lsa fun s96 z' => ?_; replace sl0 := slg z' sl0; replace sl2 := slg z' sl2; replace sl3 := slg z' sl3; replace sl4 := slg z' sl4; clear z' sl82; refine lsn ?_
           repeat ((fail_if_success refine stp ?_); go_step)
           refine region_F ?_
           iterate 4 refine pl ?_
           obtain ⟨cV_0, cV_1, cV_2, cV_3, cV_4, cV_5, cV_6, cV_7, cV_8, cV_9, cV_10, cV_11⟩ := cl12 kV
           iterate 3 refine pl ?_
           refine pn false ?_; refine pn false ?_; refine pl ?_; refine lsa fun s97 z' => ?_; replace sl0 := slg z' sl0; replace sl2 := slg z' sl2; replace sl3 := slg z' sl3; replace sl4 := slg z' sl4; have sl111 := gu 111 z'; clear z'; refine lsn ?_
           repeat ((fail_if_success refine stp ?_); go_step)
           refine cond_f ?_
           repeat ((fail_if_success refine stp ?_); go_step)
           refine region_F ?_
           iterate 6 refine pl ?_
           refine lsa fun s98 z' => ?_; replace sl0 := slg z' sl0; replace sl2 := slg z' sl2; replace sl3 := slg z' sl3; replace sl4 := slg z' sl4; have sl121 := gu 121 z'; clear z' sl111; refine lsn ?_
           repeat ((fail_if_success refine stp ?_); go_step)
           refine cond_f ?_
           repeat ((fail_if_success refine stp ?_); go_step)
           refine norm_F _ (res_none Tryz.results101) ?_; refine ⟨rfl, ?_, HB.out.lowN hNw (fun b hb => by rcases List.mem_cons.1 hb with h | h; omega; rcases List.mem_cons.1 h with h | h; omega; simp at h; exact (World.ownsRow.lt HP0.out b h).1), fun k hk => HB.out.block k (Hav.out k hk).1 (fun hm => by have h9 := (Hav.out k hk).2; rcases List.mem_cons.1 hm with h | h; exact h9.1 h; rcases List.mem_cons.1 h with h | h; exact h9.2.1 h; simp at h; exact h9.2.2.1 h)⟩; rw [HS.out]; exact ⟨G, sc, ta, tc, qa, qc, hNV, hNG, nVG, kV, kG, hP, Hpv.out, Hpg.out, hRt, fun hl b hb => Htb.out hl b hb, fun k hk => (Hav.out k hk).2⟩
          ·skip
           have G6 := hid (show ¬ (op = 6 ∧ tk = tp.length) by have h := h82; simp at h; omega)
           have htkl : tk < tp.length := by have h := h82; simp at h; omega
           clear h82
           repeat ((fail_if_success refine stp ?_); go_step)
           refine region_F ?_
           iterate 4 refine pl ?_
           obtain ⟨cV_0, cV_1, cV_2, cV_3, cV_4, cV_5, cV_6, cV_7, cV_8, cV_9, cV_10, cV_11⟩ := cl12 kV
           iterate 3 refine pl ?_
           refine py ?_; refine py ?_; refine pl ?_; refine lsa fun s99 z' => ?_; replace sl0 := slg z' sl0; replace sl2 := slg z' sl2; replace sl3 := slg z' sl3; replace sl4 := slg z' sl4; have sl111 := gu 111 z'; clear z' sl82; refine lsn ?_
           repeat ((fail_if_success refine stp ?_); go_step)
           refine cond_E sl111 (by decide) ?_ ?_ <;> (clear sl111; intro h111 sl111)
           ·skip
            have HS := hid (H4.out G0.out G6.out G7.out (by simpa using h111)); clear h111
            repeat ((fail_if_success refine stp ?_); go_step)
            refine region_F ?_
            iterate 4 refine pl ?_
            have zV := kV.2.2; refine pl ?_; refine listF_absw (fun w100 hw' => ?_); have kV' := cells_of hw' (Cells.set (i := 7) (kV))
            (try simp only [stC, mC, List.set_cons_zero, List.set_cons_succ] at kV')
            have hb101 : OldB [V] w91 w100 := oldset hw'; clear hw'; clear cV_0 cV_1 cV_2 cV_3 cV_4 cV_5 cV_6 cV_7 cV_8 cV_9 cV_10 cV_11 zV; clear qV qG; replace kV := kV'; replace kG := kG.oB hb101; replace hP := Own.oldB hP hb101 (fun g hg hm => by have a1 := Hpv.out; have a2 := Hpg.out; rw [hg] at a1 a2; simp at a1 a2 hm <;> omega); replace hRt := Rd.oldN hRt hb101 (fun hl b hb hm => by obtain ⟨_, h1, h2, _⟩ := Htb.out hl b hb; simp at hm <;> omega); replace HB := mO HB hb101; clear hb101; have qV := kV.1; have qG := kG.1; clear kV'; refine lsa fun s102 z' => ?_; replace sl0 := slg z' sl0; replace sl2 := slg z' sl2; replace sl3 := slg z' sl3; replace sl4 := slg z' sl4; clear z' sl111; refine lsn ?_
            repeat ((fail_if_success refine stp ?_); go_step)
            refine region_F ?_
            iterate 4 refine pl ?_
            obtain ⟨cV_0, cV_1, cV_2, cV_3, cV_4, cV_5, cV_6, cV_7, cV_8, cV_9, cV_10, cV_11⟩ := cl12 kV; refine pl ?_; refine pl ?_; refine lsa fun s103 z' => ?_; replace sl0 := slg z' sl0; replace sl2 := slg z' sl2; replace sl3 := slg z' sl3; replace sl4 := slg z' sl4; have sl121 := gu 121 z'; clear z'; refine lsn ?_
            repeat ((fail_if_success refine stp ?_); go_step)
            refine cond_f ?_
            repeat ((fail_if_success refine stp ?_); go_step)
            refine norm_F _ (res_none Tryz.results101) ?_; refine ⟨rfl, ?_, HB.out.lowN hNw (fun b hb => by rcases List.mem_cons.1 hb with h | h; omega; rcases List.mem_cons.1 h with h | h; omega; simp at h; exact (World.ownsRow.lt HP0.out b h).1), fun k hk => HB.out.block k (Hav.out k hk).1 (fun hm => by have h9 := (Hav.out k hk).2; rcases List.mem_cons.1 hm with h | h; exact h9.1 h; rcases List.mem_cons.1 h with h | h; exact h9.2.1 h; simp at h; exact h9.2.2.1 h)⟩; rw [HS.out]; exact ⟨G, sc, ta, tc, qa, qc, hNV, hNG, nVG, kV, kG, hP, Hpv.out, Hpg.out, hRt, fun hl b hb => Htb.out hl b hb, fun k hk => (Hav.out k hk).2⟩
           ·skip
            have HS := hid (H5.out G0.out G6.out G7.out (by simpa using h111)); clear h111
            repeat ((fail_if_success refine stp ?_); go_step)
            refine region_F ?_
            iterate 6 refine pl ?_
            refine lsa fun s104 z' => ?_; replace sl0 := slg z' sl0; replace sl2 := slg z' sl2; replace sl3 := slg z' sl3; replace sl4 := slg z' sl4; have sl121 := gu 121 z'; clear z' sl111; refine lsn ?_
            repeat ((fail_if_success refine stp ?_); go_step)
            refine cond_t ?_
            repeat ((fail_if_success refine stp ?_); go_step)
            refine region_F ?_; refine pl ?_; obtain ⟨z, hz⟩ : ∃ z, tp.getD tk 0 = z := ⟨_, rfl⟩; have Hz := hid hz; clear hz; refine cal (oread_any V G sc ta tp.length tc tk qa pr.length qc tm (p : Int) dn 0 op nx f t st _ kV nVG kG hst tp rfl hf ht htkl htp200 z Hz.out hRt (fun b hb => ⟨(Htb.out (by intro e; rw [e] at htkl; simp at htkl) b hb).2.1, (Htb.out (by intro e; rw [e] at htkl; simp at htkl) b hb).2.2.1⟩)) ?_; rintro e w105 ⟨rfl, kV', kG', hb106⟩; refine ⟨_, rfl, ?_⟩; clear cV_0 cV_1 cV_2 cV_3 cV_4 cV_5 cV_6 cV_7 cV_8 cV_9 cV_10 cV_11; clear qV qG; replace kV := kV'; replace kG := kG'; replace hP := Own.oldB hP hb106 (fun g hg hm => by have a1 := Hpv.out; have a2 := Hpg.out; rw [hg] at a1 a2; simp at a1 a2 hm <;> omega); replace hRt := Rd.oldN hRt hb106 (fun hl b hb hm => by obtain ⟨_, h1, h2, _⟩ := Htb.out hl b hb; simp at hm <;> omega)
            replace HB := mO HB hb106; clear hb106; have qV := kV.1; have qG := kG.1; refine lsa fun s107 z' => ?_; replace sl0 := slg z' sl0; replace sl2 := slg z' sl2; replace sl3 := slg z' sl3; clear z' sl4 sl121; refine lsn ?_
            repeat ((fail_if_success refine stp ?_); go_step)
            refine region_F ?_
            iterate 9 refine pl ?_
            obtain ⟨cV_0, cV_1, cV_2, cV_3, cV_4, cV_5, cV_6, cV_7, cV_8, cV_9, cV_10, cV_11⟩ := cl12 kV
            iterate 5 refine pl ?_
            have zV := kV.2.2; refine pl ?_; refine listF_absw (fun w108 hw' => ?_); have kV' := cells_of hw' (Cells.set (i := 5) (kV))
            (try simp only [stC, mC, List.set_cons_zero, List.set_cons_succ] at kV')
            have hb109 : OldB [V] w105 w108 := oldset hw'; clear hw'; clear cV_0 cV_1 cV_2 cV_3 cV_4 cV_5 cV_6 cV_7 cV_8 cV_9 cV_10 cV_11 zV; clear qV qG; replace kV := kV'; replace kG := kG.oB hb109; replace hP := Own.oldB hP hb109 (fun g hg hm => by have a1 := Hpv.out; have a2 := Hpg.out; rw [hg] at a1 a2; simp at a1 a2 hm <;> omega); replace hRt := Rd.oldN hRt hb109 (fun hl b hb hm => by obtain ⟨_, h1, h2, _⟩ := Htb.out hl b hb; simp at hm <;> omega); replace HB := mO HB hb109; clear hb109; have qV := kV.1; have qG := kG.1; clear kV'
            iterate 3 refine pl ?_
            obtain ⟨cV_0, cV_1, cV_2, cV_3, cV_4, cV_5, cV_6, cV_7, cV_8, cV_9, cV_10, cV_11⟩ := cl12 kV; have zV := kV.2.2; refine pl ?_; refine listF_absw (fun w110 hw' => ?_); have kV' := cells_of hw' (Cells.set (i := 4) (kV))
            (try simp only [stC, mC, List.set_cons_zero, List.set_cons_succ] at kV')
            have hb111 : OldB [V] w108 w110 := oldset hw'; clear hw'; clear cV_0 cV_1 cV_2 cV_3 cV_4 cV_5 cV_6 cV_7 cV_8 cV_9 cV_10 cV_11 zV; clear qV qG; replace kV := kV'; replace kG := kG.oB hb111; replace hP := Own.oldB hP hb111 (fun g hg hm => by have a1 := Hpv.out; have a2 := Hpg.out; rw [hg] at a1 a2; simp at a1 a2 hm <;> omega); replace hRt := Rd.oldN hRt hb111 (fun hl b hb hm => by obtain ⟨_, h1, h2, _⟩ := Htb.out hl b hb; simp at hm <;> omega); replace HB := mO HB hb111; clear hb111; have qV := kV.1; have qG := kG.1; clear kV'
            iterate 3 refine pl ?_
            obtain ⟨cV_0, cV_1, cV_2, cV_3, cV_4, cV_5, cV_6, cV_7, cV_8, cV_9, cV_10, cV_11⟩ := cl12 kV; have zV := kV.2.2; refine pl ?_; refine listF_absw (fun w112 hw' => ?_); have kV' := cells_of hw' (Cells.set (i := 6) (kV))
            (try simp only [stC, mC, List.set_cons_zero, List.set_cons_succ] at kV')
            have hb113 : OldB [V] w110 w112 := oldset hw'; clear hw'; clear cV_0 cV_1 cV_2 cV_3 cV_4 cV_5 cV_6 cV_7 cV_8 cV_9 cV_10 cV_11 zV; clear qV qG; replace kV := kV'; replace kG := kG.oB hb113; replace hP := Own.oldB hP hb113 (fun g hg hm => by have a1 := Hpv.out; have a2 := Hpg.out; rw [hg] at a1 a2; simp at a1 a2 hm <;> omega); replace hRt := Rd.oldN hRt hb113 (fun hl b hb hm => by obtain ⟨_, h1, h2, _⟩ := Htb.out hl b hb; simp at hm <;> omega); replace HB := mO HB hb113; clear hb113; have qV := kV.1; have qG := kG.1; clear kV'; refine lsa fun s114 z' => ?_; clear z' sl0 sl2 sl3; refine lsn ?_
            repeat ((fail_if_success refine stp ?_); go_step)
            refine norm_F _ (res_none Tryz.results101) ?_
            have eS : step4 s = ⟨st.set t z, tp, (tk : Int) + 1, pr, u, n, dn + 1, 0⟩ := by rw [HS.out]; have hz9 := Hz.out; rw [List.getD_eq_getElem?_getD] at hz9; simp [storeO, He.out, hz9]
            refine ⟨rfl, ?_, HB.out.lowN hNw (fun b hb => by rcases List.mem_cons.1 hb with h | h; omega; rcases List.mem_cons.1 h with h | h; omega; simp at h; exact (World.ownsRow.lt HP0.out b h).1), fun k hk => HB.out.block k (Hav.out k hk).1 (fun hm => by have h9 := (Hav.out k hk).2; rcases List.mem_cons.1 hm with h | h; exact h9.1 h; rcases List.mem_cons.1 h with h | h; exact h9.2.1 h; simp at h; exact h9.2.2.1 h)⟩; rw [eS]; exact ⟨G, sc, ta, tc, qa, qc, hNV, hNG, nVG, (by have hz := kV; rw [show st.length = (st.set t z).length from (List.length_set ..).symm] at hz; exact hz), kG, hP, Hpv.out, Hpg.out, hRt, fun hl b hb => Htb.out hl b hb, fun k hk => (Hav.out k hk).2⟩
         case dep13 =>
           iterate 11 refine dR ?_
           exact depR_nil
        ·skip
         have g67 : ¬ op = 6 := by simpa using h67
         clear h67
         repeat ((fail_if_success refine stp ?_); go_step)
         refine region_F ?_; refine pl ?_; refine pl ?_; refine lsa fun s115 z' => ?_; replace sl0 := slg z' sl0; replace sl2 := slg z' sl2; replace sl3 := slg z' sl3; replace sl4 := slg z' sl4; have sl87 := gu 87 z'; clear z' sl44 sl67; refine lsn ?_
         repeat ((fail_if_success refine stp ?_); go_step)
         refine cond_E sl87 (by decide) ?_ ?_ <;> (clear sl87; intro h87 sl87)
         ·skip
          have He := hid (show op = 7 by simpa using h87); clear h87; have G6 := hid (show ¬ (op = 6 ∧ tk = tp.length) by have e := He.out; omega)
          repeat ((fail_if_success refine stp ?_); go_step)
          refine region_F ?_
          iterate 3 refine pl ?_
          refine lsa fun s116 z' => ?_; replace sl0 := slg z' sl0; replace sl2 := slg z' sl2; replace sl3 := slg z' sl3; replace sl4 := gu 4 z'; clear z' sl87; refine lsn ?_
          repeat ((fail_if_success refine stp ?_); go_step)
          refine region_F ?_
          iterate 7 refine pl ?_
          refine lsa fun s117 z' => ?_; replace sl0 := slg z' sl0; replace sl2 := slg z' sl2; replace sl3 := slg z' sl3; replace sl4 := slg z' sl4; have sl97 := gu 97 z'; clear z'; refine lsn ?_
          repeat ((fail_if_success refine stp ?_); go_step)
          refine cond_E sl97 (by decide) ?_ ?_ <;> (clear sl97; intro h97 sl97)
          ·skip
           have HS := hid (H3.out G0.out G6.out ⟨He.out, by have h := h97; simp at h; omega⟩); clear h97
           repeat ((fail_if_success refine stp ?_); go_step)
           refine region_F ?_
           iterate 4 refine pl ?_
           have zV := kV.2.2; refine pl ?_; refine listF_absw (fun w118 hw' => ?_); have kV' := cells_of hw' (Cells.set (i := 7) (kV))
           (try simp only [stC, mC, List.set_cons_zero, List.set_cons_succ] at kV')
           have hb119 : OldB [V] w6 w118 := oldset hw'; clear hw'; clear cV_0 cV_1 cV_2 cV_3 cV_4 cV_5 cV_6 cV_7 cV_8 cV_9 cV_10 cV_11 zV; clear qV qG; replace kV := kV'; replace kG := kG.oB hb119; replace hP := Own.oldB hP hb119 (fun g hg hm => by have a1 := Hpv.out; have a2 := Hpg.out; rw [hg] at a1 a2; simp at a1 a2 hm <;> omega); replace hRt := Rd.oldN hRt hb119 (fun hl b hb hm => by obtain ⟨_, h1, h2, _⟩ := Htb.out hl b hb; simp at hm <;> omega); replace HB := mO HB hb119; clear hb119; have qV := kV.1; have qG := kG.1; clear kV'; refine lsa fun s120 z' => ?_; replace sl0 := slg z' sl0; replace sl2 := slg z' sl2; replace sl3 := slg z' sl3; replace sl4 := slg z' sl4; clear z' sl97; refine lsn ?_
           repeat ((fail_if_success refine stp ?_); go_step)
           refine region_F ?_
           iterate 4 refine pl ?_
           obtain ⟨cV_0, cV_1, cV_2, cV_3, cV_4, cV_5, cV_6, cV_7, cV_8, cV_9, cV_10, cV_11⟩ := cl12 kV
           iterate 3 refine pl ?_
           refine pn false ?_; refine pn false ?_; refine pl ?_; refine lsa fun s121 z' => ?_; replace sl0 := slg z' sl0; replace sl2 := slg z' sl2; replace sl3 := slg z' sl3; replace sl4 := slg z' sl4; have sl111 := gu 111 z'; clear z'; refine lsn ?_
           repeat ((fail_if_success refine stp ?_); go_step)
           refine cond_f ?_
           repeat ((fail_if_success refine stp ?_); go_step)
           refine region_F ?_
           iterate 6 refine pl ?_
           refine lsa fun s122 z' => ?_; replace sl0 := slg z' sl0; replace sl2 := slg z' sl2; replace sl3 := slg z' sl3; replace sl4 := slg z' sl4; have sl121 := gu 121 z'; clear z' sl111; refine lsn ?_
           repeat ((fail_if_success refine stp ?_); go_step)
           refine cond_f ?_
           repeat ((fail_if_success refine stp ?_); go_step)
           refine norm_F _ (res_none Tryz.results101) ?_; refine ⟨rfl, ?_, HB.out.lowN hNw (fun b hb => by rcases List.mem_cons.1 hb with h | h; omega; rcases List.mem_cons.1 h with h | h; omega; simp at h; exact (World.ownsRow.lt HP0.out b h).1), fun k hk => HB.out.block k (Hav.out k hk).1 (fun hm => by have h9 := (Hav.out k hk).2; rcases List.mem_cons.1 hm with h | h; exact h9.1 h; rcases List.mem_cons.1 h with h | h; exact h9.2.1 h; simp at h; exact h9.2.2.1 h)⟩; rw [HS.out]; exact ⟨G, sc, ta, tc, qa, qc, hNV, hNG, nVG, kV, kG, hP, Hpv.out, Hpg.out, hRt, fun hl b hb => Htb.out hl b hb, fun k hk => (Hav.out k hk).2⟩
          ·skip
           have G7 := hid (show ¬ (op = 7 ∧ pr.length = 200) by have h := h97; simp at h; omega); clear h97
           repeat ((fail_if_success refine stp ?_); go_step)
           refine region_F ?_
           iterate 7 refine pl ?_
           refine py ?_; refine py ?_; refine pl ?_; refine lsa fun s123 z' => ?_; replace sl0 := slg z' sl0; replace sl2 := slg z' sl2; replace sl3 := slg z' sl3; replace sl4 := slg z' sl4; have sl111 := gu 111 z'; clear z' sl97; refine lsn ?_
           repeat ((fail_if_success refine stp ?_); go_step)
           refine cond_E sl111 (by decide) ?_ ?_ <;> (clear sl111; intro h111 sl111)
           ·skip
            have HS := hid (H4.out G0.out G6.out G7.out (by simpa using h111)); clear h111
            repeat ((fail_if_success refine stp ?_); go_step)
            refine region_F ?_
            iterate 4 refine pl ?_
            have zV := kV.2.2; refine pl ?_; refine listF_absw (fun w124 hw' => ?_); have kV' := cells_of hw' (Cells.set (i := 7) (kV))
            (try simp only [stC, mC, List.set_cons_zero, List.set_cons_succ] at kV')
            have hb125 : OldB [V] w6 w124 := oldset hw'; clear hw'; clear cV_0 cV_1 cV_2 cV_3 cV_4 cV_5 cV_6 cV_7 cV_8 cV_9 cV_10 cV_11 zV; clear qV qG; replace kV := kV'; replace kG := kG.oB hb125; replace hP := Own.oldB hP hb125 (fun g hg hm => by have a1 := Hpv.out; have a2 := Hpg.out; rw [hg] at a1 a2; simp at a1 a2 hm <;> omega); replace hRt := Rd.oldN hRt hb125 (fun hl b hb hm => by obtain ⟨_, h1, h2, _⟩ := Htb.out hl b hb; simp at hm <;> omega); replace HB := mO HB hb125; clear hb125; have qV := kV.1; have qG := kG.1; clear kV'; refine lsa fun s126 z' => ?_; replace sl0 := slg z' sl0; replace sl2 := slg z' sl2; replace sl3 := slg z' sl3; replace sl4 := slg z' sl4; clear z' sl111; refine lsn ?_
            repeat ((fail_if_success refine stp ?_); go_step)
            refine region_F ?_
            iterate 4 refine pl ?_
            obtain ⟨cV_0, cV_1, cV_2, cV_3, cV_4, cV_5, cV_6, cV_7, cV_8, cV_9, cV_10, cV_11⟩ := cl12 kV; refine pl ?_; refine pl ?_; refine lsa fun s127 z' => ?_; replace sl0 := slg z' sl0; replace sl2 := slg z' sl2; replace sl3 := slg z' sl3; replace sl4 := slg z' sl4; have sl121 := gu 121 z'; clear z'; refine lsn ?_
            repeat ((fail_if_success refine stp ?_); go_step)
            refine cond_f ?_
            repeat ((fail_if_success refine stp ?_); go_step)
            refine norm_F _ (res_none Tryz.results101) ?_; refine ⟨rfl, ?_, HB.out.lowN hNw (fun b hb => by rcases List.mem_cons.1 hb with h | h; omega; rcases List.mem_cons.1 h with h | h; omega; simp at h; exact (World.ownsRow.lt HP0.out b h).1), fun k hk => HB.out.block k (Hav.out k hk).1 (fun hm => by have h9 := (Hav.out k hk).2; rcases List.mem_cons.1 hm with h | h; exact h9.1 h; rcases List.mem_cons.1 h with h | h; exact h9.2.1 h; simp at h; exact h9.2.2.1 h)⟩; rw [HS.out]; exact ⟨G, sc, ta, tc, qa, qc, hNV, hNG, nVG, kV, kG, hP, Hpv.out, Hpg.out, hRt, fun hl b hb => Htb.out hl b hb, fun k hk => (Hav.out k hk).2⟩
           ·skip
            have HS := hid (H5.out G0.out G6.out G7.out (by simpa using h111)); clear h111
            repeat ((fail_if_success refine stp ?_); go_step)
            refine region_F ?_
            iterate 6 refine pl ?_
            refine lsa fun s128 z' => ?_; replace sl0 := slg z' sl0; replace sl2 := slg z' sl2; replace sl3 := slg z' sl3; replace sl4 := slg z' sl4; have sl121 := gu 121 z'; clear z' sl111; refine lsn ?_
            repeat ((fail_if_success refine stp ?_); go_step)
            refine cond_t ?_
            repeat ((fail_if_success refine stp ?_); go_step)
            refine region_F ?_; refine pl ?_; have hRt0 := hRt; have HB0 := HB.out; refine cal (oprint_any N pr V G sc ta tp.length tc (tk : Int) qa qc tm (p : Int) dn 0 op nx f t st _ kV nVG kG hst hP Hpv.out Hpg.out hNV hNG (by have := HB.out.size; omega) (by omega) hf x Hx.out) ?_; rintro e w129 ⟨ax, cx, rfl, kV', kG', hO9, hv9, hg9, hc9, hb130⟩; replace HB := hid (HB.out.more hb130 (fun c hc => .inr (by rcases List.mem_cons.1 hc with h | h; (subst h; simp); simp [h]))); replace kV := kV'; replace kG := kG'; replace hRt := Rd.oldN hRt hb130 (fun hl b hb hm => by obtain ⟨_, h1, h2, h3⟩ := Htb.out hl b hb; rcases List.mem_cons.1 hm with h | h; exact h1 h; simp at h; exact h3 h); have HT9 := hid (show tp ≠ [] → ∀ b, ta = some b → (Value.slice ax (pr ++ [x]).length cx).ownBlock ≠ some b.block from fun hl b hb e => by rcases hc9 _ e with h | h; exact (Htb.out hl b hb).2.2.2 h; have := Rd.lt hRt0 hl b hb; omega)
            have HA9 := hid (show ∀ k ∈ av, (Value.slice ax (pr ++ [x]).length cx).ownBlock ≠ some k from fun k hk e => by rcases hc9 _ e with h | h; exact (Hav.out k hk).2.2.2.1 h; have h2 := (Hav.out k hk).1; have h3 := HB0.size; omega); have hP2 := hO9; have hv2 := hid hv9; have hg2 := hid hg9; clear hb130 hO9 hv9 hg9 hc9 hRt0 HB0 kV' kG'; refine ⟨_, rfl, ?_⟩; clear cV_0 cV_1 cV_2 cV_3 cV_4 cV_5 cV_6 cV_7 cV_8 cV_9 cV_10 cV_11; clear qV qG; have qV := kV.1; have qG := kG.1; clear hP; refine lsa fun s131 z' => ?_; replace sl0 := slg z' sl0; replace sl2 := slg z' sl2; replace sl3 := slg z' sl3; clear z' sl4 sl121; refine lsn ?_
            repeat ((fail_if_success refine stp ?_); go_step)
            refine region_F ?_
            iterate 9 refine pl ?_
            obtain ⟨cV_0, cV_1, cV_2, cV_3, cV_4, cV_5, cV_6, cV_7, cV_8, cV_9, cV_10, cV_11⟩ := cl12 kV
            iterate 5 refine pl ?_
            have zV := kV.2.2; refine pl ?_; refine listF_absw (fun w132 hw' => ?_); have kV' := cells_of hw' (Cells.set (i := 5) (kV))
            (try simp only [stC, mC, List.set_cons_zero, List.set_cons_succ] at kV')
            have hb133 : OldB [V] w129 w132 := oldset hw'; clear hw'; clear cV_0 cV_1 cV_2 cV_3 cV_4 cV_5 cV_6 cV_7 cV_8 cV_9 cV_10 cV_11 zV; clear qV qG; replace kV := kV'; replace kG := kG.oB hb133; replace hRt := Rd.oldN hRt hb133 (fun hl b hb hm => by obtain ⟨_, h1, h2, _⟩ := Htb.out hl b hb; simp at hm <;> omega); replace hP2 := Own.oldB hP2 hb133 (fun g hg hm => by have a1 := hv2.out; have a2 := hg2.out; rw [hg] at a1 a2; simp at a1 a2 hm <;> omega); replace HB := mO HB hb133; clear hb133; have qV := kV.1; have qG := kG.1; clear kV'
            iterate 3 refine pl ?_
            obtain ⟨cV_0, cV_1, cV_2, cV_3, cV_4, cV_5, cV_6, cV_7, cV_8, cV_9, cV_10, cV_11⟩ := cl12 kV; have zV := kV.2.2; refine pl ?_; refine listF_absw (fun w134 hw' => ?_); have kV' := cells_of hw' (Cells.set (i := 4) (kV))
            (try simp only [stC, mC, List.set_cons_zero, List.set_cons_succ] at kV')
            have hb135 : OldB [V] w132 w134 := oldset hw'; clear hw'; clear cV_0 cV_1 cV_2 cV_3 cV_4 cV_5 cV_6 cV_7 cV_8 cV_9 cV_10 cV_11 zV; clear qV qG; replace kV := kV'; replace kG := kG.oB hb135; replace hRt := Rd.oldN hRt hb135 (fun hl b hb hm => by obtain ⟨_, h1, h2, _⟩ := Htb.out hl b hb; simp at hm <;> omega); replace hP2 := Own.oldB hP2 hb135 (fun g hg hm => by have a1 := hv2.out; have a2 := hg2.out; rw [hg] at a1 a2; simp at a1 a2 hm <;> omega); replace HB := mO HB hb135; clear hb135; have qV := kV.1; have qG := kG.1; clear kV'
            iterate 3 refine pl ?_
            obtain ⟨cV_0, cV_1, cV_2, cV_3, cV_4, cV_5, cV_6, cV_7, cV_8, cV_9, cV_10, cV_11⟩ := cl12 kV; have zV := kV.2.2; refine pl ?_; refine listF_absw (fun w136 hw' => ?_); have kV' := cells_of hw' (Cells.set (i := 6) (kV))
            (try simp only [stC, mC, List.set_cons_zero, List.set_cons_succ] at kV')
            have hb137 : OldB [V] w134 w136 := oldset hw'; clear hw'; clear cV_0 cV_1 cV_2 cV_3 cV_4 cV_5 cV_6 cV_7 cV_8 cV_9 cV_10 cV_11 zV; clear qV qG; replace kV := kV'; replace kG := kG.oB hb137; replace hRt := Rd.oldN hRt hb137 (fun hl b hb hm => by obtain ⟨_, h1, h2, _⟩ := Htb.out hl b hb; simp at hm <;> omega); replace hP2 := Own.oldB hP2 hb137 (fun g hg hm => by have a1 := hv2.out; have a2 := hg2.out; rw [hg] at a1 a2; simp at a1 a2 hm <;> omega); replace HB := mO HB hb137; clear hb137; have qV := kV.1; have qG := kG.1; clear kV'; refine lsa fun s138 z' => ?_; clear z' sl0 sl2 sl3; refine lsn ?_
            repeat ((fail_if_success refine stp ?_); go_step)
            refine norm_F _ (res_none Tryz.results101) ?_
            have eS : step4 s = ⟨st, tp, (tk : Int), pr ++ [x], u, n, dn + 1, 0⟩ := by rw [HS.out]; simp [storeO, He.out]
            refine ⟨rfl, ?_, HB.out.lowN hNw (fun b hb => by rcases List.mem_cons.1 hb with h | h; omega; rcases List.mem_cons.1 h with h | h; omega; simp at h; exact (World.ownsRow.lt HP0.out b h).1), fun k hk => HB.out.block k (Hav.out k hk).1 (fun hm => by have h9 := (Hav.out k hk).2; rcases List.mem_cons.1 hm with h | h; exact h9.1 h; rcases List.mem_cons.1 h with h | h; exact h9.2.1 h; simp at h; exact h9.2.2.1 h)⟩; rw [eS]; exact ⟨G, sc, ta, tc, ax, cx, hNV, hNG, nVG, kV, kG, hP2, hv2.out, hg2.out, hRt, fun hl b hb => ⟨(Htb.out hl b hb).1, (Htb.out hl b hb).2.1, (Htb.out hl b hb).2.2.1, HT9.out hl b hb⟩, fun k hk => ⟨(Hav.out k hk).2.1, (Hav.out k hk).2.2.1, HA9.out k hk, (Hav.out k hk).2.2.2.2⟩⟩
         ·skip
          have g87 : ¬ op = 7 := by simpa using h87
          clear h87; have G6 := hid (show ¬ (op = 6 ∧ tk = tp.length) by omega); have G7 := hid (show ¬ (op = 7 ∧ pr.length = 200) by omega)
          repeat ((fail_if_success refine stp ?_); go_step)
          refine region_F ?_
          iterate 7 refine pl ?_
          refine py ?_; refine py ?_; refine pl ?_; refine lsa fun s139 z' => ?_; replace sl0 := slg z' sl0; replace sl2 := slg z' sl2; replace sl3 := slg z' sl3; replace sl4 := slg z' sl4; have sl111 := gu 111 z'; clear z' sl87; refine lsn ?_
          repeat ((fail_if_success refine stp ?_); go_step)
          refine cond_E sl111 (by decide) ?_ ?_ <;> (clear sl111; intro h111 sl111)
          ·skip
           have HS := hid (H4.out G0.out G6.out G7.out (by simpa using h111)); clear h111
           repeat ((fail_if_success refine stp ?_); go_step)
           refine region_F ?_
           iterate 4 refine pl ?_
           have zV := kV.2.2; refine pl ?_; refine listF_absw (fun w140 hw' => ?_); have kV' := cells_of hw' (Cells.set (i := 7) (kV))
           (try simp only [stC, mC, List.set_cons_zero, List.set_cons_succ] at kV')
           have hb141 : OldB [V] w6 w140 := oldset hw'; clear hw'; clear cV_0 cV_1 cV_2 cV_3 cV_4 cV_5 cV_6 cV_7 cV_8 cV_9 cV_10 cV_11 zV; clear qV qG; replace kV := kV'; replace kG := kG.oB hb141; replace hP := Own.oldB hP hb141 (fun g hg hm => by have a1 := Hpv.out; have a2 := Hpg.out; rw [hg] at a1 a2; simp at a1 a2 hm <;> omega); replace hRt := Rd.oldN hRt hb141 (fun hl b hb hm => by obtain ⟨_, h1, h2, _⟩ := Htb.out hl b hb; simp at hm <;> omega); replace HB := mO HB hb141; clear hb141; have qV := kV.1; have qG := kG.1; clear kV'; refine lsa fun s142 z' => ?_; replace sl0 := slg z' sl0; replace sl2 := slg z' sl2; replace sl3 := slg z' sl3; replace sl4 := slg z' sl4; clear z' sl111; refine lsn ?_
           repeat ((fail_if_success refine stp ?_); go_step)
           refine region_F ?_
           iterate 4 refine pl ?_
           obtain ⟨cV_0, cV_1, cV_2, cV_3, cV_4, cV_5, cV_6, cV_7, cV_8, cV_9, cV_10, cV_11⟩ := cl12 kV; refine pl ?_; refine pl ?_; refine lsa fun s143 z' => ?_; replace sl0 := slg z' sl0; replace sl2 := slg z' sl2; replace sl3 := slg z' sl3; replace sl4 := slg z' sl4; have sl121 := gu 121 z'; clear z'; refine lsn ?_
           repeat ((fail_if_success refine stp ?_); go_step)
           refine cond_f ?_
           repeat ((fail_if_success refine stp ?_); go_step)
           refine norm_F _ (res_none Tryz.results101) ?_; refine ⟨rfl, ?_, HB.out.lowN hNw (fun b hb => by rcases List.mem_cons.1 hb with h | h; omega; rcases List.mem_cons.1 h with h | h; omega; simp at h; exact (World.ownsRow.lt HP0.out b h).1), fun k hk => HB.out.block k (Hav.out k hk).1 (fun hm => by have h9 := (Hav.out k hk).2; rcases List.mem_cons.1 hm with h | h; exact h9.1 h; rcases List.mem_cons.1 h with h | h; exact h9.2.1 h; simp at h; exact h9.2.2.1 h)⟩; rw [HS.out]; exact ⟨G, sc, ta, tc, qa, qc, hNV, hNG, nVG, kV, kG, hP, Hpv.out, Hpg.out, hRt, fun hl b hb => Htb.out hl b hb, fun k hk => (Hav.out k hk).2⟩
          ·skip
           have HS := hid (H5.out G0.out G6.out G7.out (by simpa using h111)); clear h111
           repeat ((fail_if_success refine stp ?_); go_step)
           refine region_F ?_
           iterate 6 refine pl ?_
           refine lsa fun s144 z' => ?_; replace sl0 := slg z' sl0; replace sl2 := slg z' sl2; replace sl3 := slg z' sl3; replace sl4 := slg z' sl4; have sl121 := gu 121 z'; clear z' sl111; refine lsn ?_
           repeat ((fail_if_success refine stp ?_); go_step)
           refine cond_t ?_
           repeat ((fail_if_success refine stp ?_); go_step)
           refine region_F ?_; refine pl ?_; refine cal (ostep1_any _) ?_; rintro e w' ⟨rfl, rfl⟩; refine ⟨_, rfl, ?_⟩; refine lsa fun s146 z' => ?_; replace sl0 := slg z' sl0; replace sl2 := slg z' sl2; replace sl3 := slg z' sl3; clear z' sl4 sl121; refine lsn ?_
           repeat ((fail_if_success refine stp ?_); go_step)
           refine region_F ?_
           iterate 14 refine pl ?_
           have zV := kV.2.2; refine pl ?_; refine listF_absw (fun w147 hw' => ?_); have kV' := cells_of hw' (Cells.set (i := 5) (kV))
           (try simp only [stC, mC, List.set_cons_zero, List.set_cons_succ] at kV')
           have hb148 : OldB [V] w6 w147 := oldset hw'; clear hw'; clear cV_0 cV_1 cV_2 cV_3 cV_4 cV_5 cV_6 cV_7 cV_8 cV_9 cV_10 cV_11 zV; clear qV qG; replace kV := kV'; replace kG := kG.oB hb148; replace hP := Own.oldB hP hb148 (fun g hg hm => by have a1 := Hpv.out; have a2 := Hpg.out; rw [hg] at a1 a2; simp at a1 a2 hm <;> omega); replace hRt := Rd.oldN hRt hb148 (fun hl b hb hm => by obtain ⟨_, h1, h2, _⟩ := Htb.out hl b hb; simp at hm <;> omega); replace HB := mO HB hb148; clear hb148; have qV := kV.1; have qG := kG.1; clear kV'
           iterate 3 refine pl ?_
           obtain ⟨cV_0, cV_1, cV_2, cV_3, cV_4, cV_5, cV_6, cV_7, cV_8, cV_9, cV_10, cV_11⟩ := cl12 kV; have zV := kV.2.2; refine pl ?_; refine listF_absw (fun w149 hw' => ?_); have kV' := cells_of hw' (Cells.set (i := 4) (kV))
           (try simp only [stC, mC, List.set_cons_zero, List.set_cons_succ] at kV')
           have hb150 : OldB [V] w147 w149 := oldset hw'; clear hw'; clear cV_0 cV_1 cV_2 cV_3 cV_4 cV_5 cV_6 cV_7 cV_8 cV_9 cV_10 cV_11 zV; clear qV qG; replace kV := kV'; replace kG := kG.oB hb150; replace hP := Own.oldB hP hb150 (fun g hg hm => by have a1 := Hpv.out; have a2 := Hpg.out; rw [hg] at a1 a2; simp at a1 a2 hm <;> omega); replace hRt := Rd.oldN hRt hb150 (fun hl b hb hm => by obtain ⟨_, h1, h2, _⟩ := Htb.out hl b hb; simp at hm <;> omega); replace HB := mO HB hb150; clear hb150; have qV := kV.1; have qG := kG.1; clear kV'
           iterate 3 refine pl ?_
           obtain ⟨cV_0, cV_1, cV_2, cV_3, cV_4, cV_5, cV_6, cV_7, cV_8, cV_9, cV_10, cV_11⟩ := cl12 kV; have zV := kV.2.2; refine pl ?_; refine listF_absw (fun w151 hw' => ?_); have kV' := cells_of hw' (Cells.set (i := 6) (kV))
           (try simp only [stC, mC, List.set_cons_zero, List.set_cons_succ] at kV')
           have hb152 : OldB [V] w149 w151 := oldset hw'; clear hw'; clear cV_0 cV_1 cV_2 cV_3 cV_4 cV_5 cV_6 cV_7 cV_8 cV_9 cV_10 cV_11 zV; clear qV qG; replace kV := kV'; replace kG := kG.oB hb152; replace hP := Own.oldB hP hb152 (fun g hg hm => by have a1 := Hpv.out; have a2 := Hpg.out; rw [hg] at a1 a2; simp at a1 a2 hm <;> omega); replace hRt := Rd.oldN hRt hb152 (fun hl b hb hm => by obtain ⟨_, h1, h2, _⟩ := Htb.out hl b hb; simp at hm <;> omega); replace HB := mO HB hb152; clear hb152; have qV := kV.1; have qG := kG.1; clear kV'; refine lsa fun s153 z' => ?_; clear z' sl0 sl2 sl3; refine lsn ?_
           repeat ((fail_if_success refine stp ?_); go_step)
           refine norm_F _ (res_none Tryz.results101) ?_
           have eS : step4 s = ⟨st, tp, (tk : Int), pr, u, n, dn + 1, 0⟩ := by rw [HS.out]; simp [storeO, G0.out, g51, g55, g59, g63, g67, g87]
           refine ⟨rfl, ?_, HB.out.lowN hNw (fun b hb => by rcases List.mem_cons.1 hb with h | h; omega; rcases List.mem_cons.1 h with h | h; omega; simp at h; exact (World.ownsRow.lt HP0.out b h).1), fun k hk => HB.out.block k (Hav.out k hk).1 (fun hm => by have h9 := (Hav.out k hk).2; rcases List.mem_cons.1 hm with h | h; exact h9.1 h; rcases List.mem_cons.1 h with h | h; exact h9.2.1 h; simp at h; exact h9.2.2.1 h)⟩; rw [eS]; exact ⟨G, sc, ta, tc, qa, qc, hNV, hNG, nVG, kV, kG, hP, Hpv.out, Hpg.out, hRt, fun hl b hb => Htb.out hl b hb, fun k hk => (Hav.out k hk).2⟩
  case dep12 =>
    iterate 20 refine dR ?_
    exact depR_nil
 case dep11 =>
   iterate 14 refine dR ?_
   exact depR_nil


theorem ostep_any (s : St4) (av : List Nat) (N V : Nat) (o0 : Ord) (w : World) (hM : OM N av w V s o0) (hO : OkI s) (hw0 : s.why = 0) (hNw : N ≤ w.heap.size) (hav : ∀ k ∈ av, k < w.heap.size) :
    Calls Tryz.prog 101 #[.pointer (some ⟨V, 0, none⟩)] w (fun e w' => e = .returned (.tuple #[]) ∧ OM N av w' V (step4 s) (orderOf s) ∧ Below N w w' ∧ KeepL av w w') := by
  obtain ⟨G, sc, ta, tc, pa, pc, m1, m2, m3, m4, m5, m6, m7, m8, m9, m10, m11⟩ := hM; have hl := hO.l0; obtain ⟨⟨o1, o2⟩, ⟨o3, o4⟩, ⟨o5, o6⟩, o7, o8⟩ := hO.ord; have hfx := hO.fr; have hty := hO.tt; have hu := untilO_gt (orderOf s) s.time (decide (signI (frOf s) < 0)); obtain ⟨p, hp⟩ := Int.eq_ofNat_of_zero_le hO.pc.1; obtain ⟨tk, htk⟩ := Int.eq_ofNat_of_zero_le hO.tk.1; obtain ⟨f, hf⟩ := Int.eq_ofNat_of_zero_le o3; obtain ⟨t, ht⟩ := Int.eq_ofNat_of_zero_le o5; have hpc := hO.pc; have htk2 := hO.tk
  have hord : orderOf s = ⟨(orderOf s).op, (f : Int), (t : Int), (orderOf s).nx⟩ := by rw [← hf, ← ht]
  have hv := hO.w0 _ (getD_in (l := s.store) (i := s.pc.toNat) (d := 0) (by omega)); rw [hp, htk, hw0] at m4
  have h := ostep_v s av N V G sc ta tc pa pc s.store s.tape s.printed tk p f t s.time s.done (orderOf s).op (orderOf s).nx (s.store.getD s.pc.toNat 0) (frOf s) (ttOf s) (nextO (orderOf s) (decide (signI (frOf s) < 0))) (untilO (orderOf s) s.time (decide (signI (frOf s) < 0))) o0 w
    hord hv hfx hty (hid hl) (by omega) (by omega) (by omega) hO.l1 hO.l2 (by omega) ⟨o1, o2⟩ ⟨o7, o8⟩ hO.tm hO.dn ⟨hu.1, hu.2.1⟩ (by rw [← hord]) (by rw [← hord]) (by rw [hp]; rfl) (by unfold frOf; rw [hf]; rfl) (by unfold ttOf; rw [ht]; rfl)
    m4 m3 m5 m6 m7 m8 m1 m2 hNw m9 m10 (fun k hk => ⟨hav k hk, m11 k hk⟩)
    (fun h0 => step_why (k := 1) (by unfold whyOf; rw [if_pos h0]) (by decide) hp htk)
    (fun h0 h1 => step_why (k := 2) (by unfold whyOf; rw [if_neg h0, if_pos ⟨h1.1, by omega⟩]) (by decide) hp htk)
    (fun h0 h1 h2 => step_why (k := 3) (by unfold whyOf; rw [if_neg h0, if_neg (fun g => h1 ⟨g.1, by omega⟩), if_pos h2]) (by decide) hp htk)
    (fun h0 h1 h2 h3 => step_why (k := 4) (by unfold whyOf; rw [if_neg h0, if_neg (fun g => h1 ⟨g.1, by omega⟩), if_neg h2, if_pos h3]) (by decide) hp htk)
    (fun h0 h1 h2 h3 => by
      have hw : whyOf s = 0 := by unfold whyOf; rw [if_neg h0, if_neg (fun g => h1 ⟨g.1, by omega⟩), if_neg h2, if_neg h3]
      have es : (⟨s.store, s.tape, (tk : Int), s.printed, s.time, (p : Int), s.done, 0⟩ : St4) = s := by
        cases s
        simp only at hp htk hw0
        rw [hp, htk, hw0]
      rw [es, ← hord, ← htk]; unfold step4
      rw [if_neg (by omega), hw0])
  rw [← hord] at h; exact h

end Go.Proofs.YtleknidlgmmgbaaGreat
