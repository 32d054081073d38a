/- The program: do. -/
import Derived.Test.YtleknidlgmmgbaaGreattsW39
import Derived.Test.YtleknidlgmmgbaaGreattsW29
import Derived.Test.YtleknidlgmmgbaaGreattsW46
import Derived.Test.YtleknidlgmmgbaaGreattsCZ
set_option linter.all false
set_option maxRecDepth 100000
set_option maxHeartbeats 16000000
namespace Go.Proofs.YtleknidlgmmgbaaGreat

section
open Go.RowKit

theorem XW20b {A B1 : Prop} (hX1 : B1) (e : B1 → A := by exact ret_F _ (res_t Tryz.results24 ((getD_F (by decide)).trans sl4))) : A := e hX1
theorem XW20c {A B1 : Prop} (hX1 : B1) (e : B1 → A := by exact loop_F (n := 26) (fun kJ sJ wJ => ∃ (i : Nat), kJ = l.length - i ∧ sJ 5 = .int .i64 (i : Int) ∧ sJ 0 = s4 0 ∧ sJ 1 = s4 1 ∧ OldB [] w wJ ∧ i ≤ l.length ∧ Hid (l.take i = m.take i)) ⟨0, rfl, (by first | exact sl5 | (rw [sl5]; go_num) | (rw [sl5]; rfl)), rfl, rfl, OldB.refl _ _, Nat.zero_le _, hid rfl⟩) : A := e hX1
theorem runits_any (al : Option Addr) (cl : Nat) (l : List Unt) (am : Option Addr) (cm : Nat) (m : List Unt) (w : World) (hRl : RdUn w al l) (hRm : RdUn w am m) (hll : l.length ≤ 9223372036854775807) (hlm : m.length ≤ 9223372036854775807) :
    Calls Tryz.prog 24 #[.slice al l.length cl, .slice am m.length cm] w (fun e w' => e = .returned (.bool (decide (l = m))) ∧ Below w.heap.size w w') := by
 have HRl := hid hRl; have HRm := hid hRm; clear hRl hRm
 refine enter_F Tryz.func24 rfl Tryz.ntmps24 (by simp) ?_
 intro s0 hs; have sl0 : s0 0 = .slice al l.length cl := hs 0 (by simp); have sl1 : s0 1 = .slice am m.length cm := hs 1 (by simp); clear hs; have HB := hid (OldB.refl [] w)
 refine nr ?_; intros; refine pl ?_; refine lx [] ?_; clear sl0 sl1; intro _ sl0 sl1; refine lr ?_; intros
 refine P5 ?_
 refine lx [10] ?_; clear sl0 sl1; intro _ sl0 sl1 sl10; refine ln ?_; intros
 refine cond_E sl10 (by decide) ?_ ?_ <;> (clear sl10; intro h10 sl10)
 ·skip
  have Hf := hid (show decide (l = m) = false from decide_eq_false (fun e => by have h := h10; rw [e] at h; simp at h))
  refine nr ?_; intros; refine pl ?_; clear sl0 sl1 sl10; refine lx [4] ?_; intro _ sl4; refine ln ?_; intros
  refine XW20b ?_; exact ⟨ret_bool Hf.out.symm, HB.out.toBelow⟩
 ·skip
  have hlen : (l.length : Int) = m.length := by have h := h10; simp at h; omega
  have Hlen := hid (show l.length = m.length by omega); clear hlen
  refine nr ?_; intros; refine pl ?_; clear sl10; refine lx [5] ?_; clear sl0 sl1; intro s4 sl0 sl1 sl5; refine ln ?_; intros
  have hc0_0 := hid sl0; have hc0_1 := hid sl1; refine XW20c ?_; clear sl5; rintro kJ s5 w6 ⟨i, rfl, sl5, e0, e1, hb, hil, Htk⟩; replace sl0 := e0.trans sl0; clear e0; replace sl1 := e1.trans sl1; clear e1; have hoJ := hb; replace HB := mO HB hb; clear hb; have HoJ := hid hoJ; clear hoJ; have HL8 := HoJ; clear HoJ
  refine nr ?_; intros
  refine P4 ?_
  refine lx [14] ?_; clear sl0 sl1 sl5; intro _ sl0 sl1 sl5 sl14; refine ln ?_; intros
  refine cond_E sl14 (by decide) ?_ ?_ <;> (clear sl14; intro h14 sl14)
  ·skip
   have hi : i < l.length := by simpa using h14
   have hii : (i : Int) < l.length := by omega
   have hi2 : i < m.length := by have := Hlen.out; omega
   have hii2 : (i : Int) < m.length := by omega
   obtain ⟨bl, ol, hal, hbl, c0, c1⟩ := RdUn.ne (Rd.oldB HRl.out HB.out (by simp)) hi; subst hal; obtain ⟨bm, om, ham, hbm, d0, d1⟩ := RdUn.ne (Rd.oldB HRm.out HB.out (by simp)) hi2; subst ham; obtain ⟨y, hy⟩ : ∃ z, l[i] = z := ⟨_, rfl⟩; obtain ⟨z, hz⟩ : ∃ z, m[i] = z := ⟨_, rfl⟩; rw [hy] at c0 c1; rw [hz] at d0 d1; have Hy := hid hy; have Hz := hid hz; clear hy hz
   refine zx ?_; intros
   refine rgQ 8 [?_,?_,?_,?_,?_,?_,?_,?_] ?walk34 ?dep34
   case walk34 =>
    iterate 8 refine rq ?_
    refine walkR_nil (fun X hX w10 hwz hcz => ?_); clear hX hcz
    (try clear X)
    skip; have hb := hwz.unDrew; clear hwz; revert HB; revert HL8; refine zO hb ?_; clear hb; intro HL8 HB; refine listF_step rfl (fun K' hK => ?_); unfold opF; go_simp
    suffices hs : K' (.bool (decide (¬ (y.mach = z.mach ∧ y.unit.toList = z.unit.toList)))) w10 by (by_cases q0 : y.mach = z.mach <;> by_cases q1 : y.unit.toList = z.unit.toList <;> simp [q0, q1] at hs ⊢ <;> exact hs)
    refine hK _ _ ?_; clear hK K'; clear sl14; refine lx [25] ?_; clear sl0 sl1 sl5; intro _ sl0 sl1 sl5 sl25; refine ln ?_; intros
    refine cond_E sl25 (by decide) ?_ ?_ <;> (clear sl25; intro h25 sl25)
    ·skip
     have Hf := hid (show decide (l = m) = false from decide_eq_false (fun e => by subst e; exact of_decide_eq_true h25 ((eq_unt _ _).1 (Hy.out.symm.trans Hz.out))))
     refine nr ?_; intros; refine pl ?_; clear sl0 sl1 sl5 sl25; refine lx [4] ?_; intro _ sl4; refine ln ?_; intros
     refine XW20b ?_; exact ⟨ret_bool Hf.out.symm, HB.out.toBelow⟩
    ·skip
     have hyz : y = z := by rw [eq_unt]; exact Decidable.not_not.1 (of_decide_eq_false h25)
     refine nr ?_; intros
     refine P3 ?_
     clear sl5 sl25; refine lx [5] ?_; clear sl0 sl1; intro _ sl0 sl1 sl5; refine ln ?_; intros
     refine ⟨_, _, rfl, ?_, i + 1, rfl, (rL sl5), (sl0.trans hc0_0.out.symm), (sl1.trans hc0_1.out.symm), HL8.out, by omega, hid (take_more hi hi2 Htk.out (by rw [Hy.out, Hz.out, hyz]))⟩
     omega
   case dep34 => exact dA
  ·skip
   have hi : i = l.length := by have h := h14; simp at h; omega
   have Hf := hid (show decide (l = m) = true from decide_eq_true (by have h1 := Htk.out; rw [hi, List.take_length, Hlen.out, List.take_length] at h1; exact h1))
   refine zx ?_; intros
   clear HL8; clear hc0_0 hc0_1; refine region_F ?_; refine pl ?_; clear sl0 sl1 sl5 sl14; refine lx [4] ?_; intro _ sl4; refine ln ?_; intros
   refine XW20b ?_; exact ⟨ret_bool Hf.out.symm, HB.out.toBelow⟩

theorem XW20d {A B1 : Prop} (hX1 : B1) (e : B1 → A := by exact ret_F _ (res_t Tryz.results21 ((getD_F (by decide)).trans sl4))) : A := e hX1
theorem rents_any (al : Option Addr) (cl : Nat) (l : List Ent) (am : Option Addr) (cm : Nat) (m : List Ent) (w : World) (hRl : RdEn w al l) (hRm : RdEn w am m) (hll : l.length ≤ 9223372036854775807) (hlm : m.length ≤ 9223372036854775807) :
    Calls Tryz.prog 21 #[.slice al l.length cl, .slice am m.length cm] w (fun e w' => e = .returned (.bool (decide (l = m))) ∧ Below w.heap.size w w') := by
 have HRl := hid hRl; have HRm := hid hRm; clear hRl hRm
 refine enter_F Tryz.func21 rfl Tryz.ntmps21 (by simp) ?_
 intro s0 hs; have sl0 : s0 0 = .slice al l.length cl := hs 0 (by simp); have sl1 : s0 1 = .slice am m.length cm := hs 1 (by simp); clear hs; have HB := hid (OldB.refl [] w)
 refine nr ?_; intros; refine pl ?_; refine lx [] ?_; clear sl0 sl1; intro _ sl0 sl1; refine lr ?_; intros
 refine P5 ?_
 refine lx [10] ?_; clear sl0 sl1; intro _ sl0 sl1 sl10; refine ln ?_; intros
 refine cond_E sl10 (by decide) ?_ ?_ <;> (clear sl10; intro h10 sl10)
 ·skip
  have Hf := hid (show decide (l = m) = false from decide_eq_false (fun e => by have h := h10; rw [e] at h; simp at h))
  refine nr ?_; intros; refine pl ?_; clear sl0 sl1 sl10; refine lx [4] ?_; intro _ sl4; refine ln ?_; intros
  refine XW20d ?_; exact ⟨ret_bool Hf.out.symm, HB.out.toBelow⟩
 ·skip
  have hlen : (l.length : Int) = m.length := by have h := h10; simp at h; omega
  have Hlen := hid (show l.length = m.length by omega); clear hlen
  refine nr ?_; intros; refine pl ?_; clear sl10; refine lx [5] ?_; clear sl0 sl1; intro s4 sl0 sl1 sl5; refine ln ?_; intros
  have hc0_0 := hid sl0; have hc0_1 := hid sl1; refine XW20c ?_; clear sl5; rintro kJ s5 w6 ⟨i, rfl, sl5, e0, e1, hb, hil, Htk⟩; replace sl0 := e0.trans sl0; clear e0; replace sl1 := e1.trans sl1; clear e1; have hoJ := hb; replace HB := mO HB hb; clear hb; have HoJ := hid hoJ; clear hoJ; have HL8 := HoJ; clear HoJ
  refine nr ?_; intros
  refine P4 ?_
  refine lx [14] ?_; clear sl0 sl1 sl5; intro _ sl0 sl1 sl5 sl14; refine ln ?_; intros
  refine cond_E sl14 (by decide) ?_ ?_ <;> (clear sl14; intro h14 sl14)
  ·skip
   have hi : i < l.length := by simpa using h14
   have hii : (i : Int) < l.length := by omega
   have hi2 : i < m.length := by have := Hlen.out; omega
   have hii2 : (i : Int) < m.length := by omega
   obtain ⟨bl, ol, hal, hbl, c0, c1, c2, c3⟩ := RdEn.ne (Rd.oldB HRl.out HB.out (by simp)) hi; subst hal; obtain ⟨bm, om, ham, hbm, d0, d1, d2, d3⟩ := RdEn.ne (Rd.oldB HRm.out HB.out (by simp)) hi2; subst ham; obtain ⟨y, hy⟩ : ∃ z, l[i] = z := ⟨_, rfl⟩; obtain ⟨z, hz⟩ : ∃ z, m[i] = z := ⟨_, rfl⟩; rw [hy] at c0 c1 c2 c3; rw [hz] at d0 d1 d2 d3; have Hy := hid hy; have Hz := hid hz; clear hy hz
   refine zx ?_; intros
   refine rgQ 8 [?_,?_,?_,?_,?_,?_,?_,?_] ?walk35 ?dep35
   case walk35 =>
    iterate 8 refine rq ?_
    refine walkR_nil (fun X hX w10 hwz hcz => ?_); clear hX hcz
    (try clear X)
    skip; have hb := hwz.unDrew; clear hwz; revert HB; revert HL8; refine zO hb ?_; clear hb; intro HL8 HB; refine listF_step rfl (fun K' hK => ?_); unfold opF; go_simp
    suffices hs : K' (.bool (decide (¬ (y.num = z.num ∧ y.mach = z.mach ∧ y.day = z.day ∧ y.unit.toList = z.unit.toList)))) w10 by (by_cases q0 : y.num = z.num <;> by_cases q1 : y.mach = z.mach <;> by_cases q2 : y.day = z.day <;> by_cases q3 : y.unit.toList = z.unit.toList <;> simp [q0, q1, q2, q3] at hs ⊢ <;> exact hs)
    refine hK _ _ ?_; clear hK K'; clear sl14; refine lx [25] ?_; clear sl0 sl1 sl5; intro _ sl0 sl1 sl5 sl25; refine ln ?_; intros
    refine cond_E sl25 (by decide) ?_ ?_ <;> (clear sl25; intro h25 sl25)
    ·skip
     have Hf := hid (show decide (l = m) = false from decide_eq_false (fun e => by subst e; exact of_decide_eq_true h25 ((eq_ent _ _).1 (Hy.out.symm.trans Hz.out))))
     refine nr ?_; intros; refine pl ?_; clear sl0 sl1 sl5 sl25; refine lx [4] ?_; intro _ sl4; refine ln ?_; intros
     refine XW20d ?_; exact ⟨ret_bool Hf.out.symm, HB.out.toBelow⟩
    ·skip
     have hyz : y = z := by rw [eq_ent]; exact Decidable.not_not.1 (of_decide_eq_false h25)
     refine nr ?_; intros
     refine P3 ?_
     clear sl5 sl25; refine lx [5] ?_; clear sl0 sl1; intro _ sl0 sl1 sl5; refine ln ?_; intros
     refine ⟨_, _, rfl, ?_, i + 1, rfl, (rL sl5), (sl0.trans hc0_0.out.symm), (sl1.trans hc0_1.out.symm), HL8.out, by omega, hid (take_more hi hi2 Htk.out (by rw [Hy.out, Hz.out, hyz]))⟩
     omega
   case dep35 => exact dA
  ·skip
   have hi : i = l.length := by have h := h14; simp at h; omega
   have Hf := hid (show decide (l = m) = true from decide_eq_true (by have h1 := Htk.out; rw [hi, List.take_length, Hlen.out, List.take_length] at h1; exact h1))
   refine zx ?_; intros
   clear HL8; clear hc0_0 hc0_1; refine region_F ?_; refine pl ?_; clear sl0 sl1 sl5 sl14; refine lx [4] ?_; intro _ sl4; refine ln ?_; intros
   refine XW20d ?_; exact ⟨ret_bool Hf.out.symm, HB.out.toBelow⟩
end

section
open Go.RowKit


def hitL (l : List Flt) (st : List Int) : List Int := l.foldl (fun st f => st.set f.addr.toNat (xorI (st.getD f.addr.toNat 0) f.mask)) st
theorem hitL_succ {l : List Flt} {st : List Int} {i : Nat} (h : i < l.length) {y : Flt} (hy : l[i] = y) {L : List Int} (hL : L = hitL (l.take i) st) {q : Nat} (hq : y.addr = q) (hql : q < L.length) {z : Int} (hz : L[q] = z) : hitL (l.take (i + 1)) st = L.set q (xorI z y.mask) := by
  subst hy hL; unfold hitL at *; rw [List.take_succ_eq_append_getElem h, List.foldl_append, List.foldl_cons, List.foldl_nil, hq, Int.toNat_natCast, getD_get hql, hz]
theorem hitL_in {l : List Flt} (hg : ∀ f ∈ l, 1 ≤ f.mask ∧ f.mask ≤ 16777215) : ∀ {st : List Int}, (∀ x ∈ st, 0 ≤ x ∧ x ≤ 16777215) → ∀ x ∈ hitL l st, 0 ≤ x ∧ x ≤ 16777215 := by
  induction l with
  | nil => intro st hs; exact hs
  | cons f l ih =>
    intro st hs; refine ih (fun f hm => hg f (List.mem_cons_of_mem _ hm)) (set_in hs ?_); refine xorI_bd ?_ (by have := hg f (List.mem_cons_self ..); omega)
    rcases Nat.lt_or_ge f.addr.toNat st.length with h | h
    · exact hs _ (getD_in h)
    · rw [List.getD_eq_getElem?_getD, List.getElem?_eq_none h]; simp
theorem runO_1 {s : St4} (h : OkI s) : runO s 1 = go4 s := by
  unfold runO; rw [if_pos (open_zero.2 ⟨h, by omega, by omega⟩)]; rfl

theorem tdo_v (av : List Nat) (s : St4) (A : SA) (M bm k : Nat) (g : Int → Option Value) (fs : List Flt) (j : Nat) (a0 : Option Addr) (c0 : Nat) (w : World) (hM : Cells w M (tC s A bm (j : Int))) (hR : RdSt w s A) (hfM : A.free s M) (hmp : MapV Tryz.prog 3 kvI w bm k g) (hbM : bm ≠ M) (hfl : ∀ n, ∃ a c, (g n).getD nilS = .slice a (fltN fs n).length c ∧ RdFl w a (fltN fs n) ∧ (fltN fs n ≠ [] → ∀ b, a = some b → b.block ≠ M ∧ b.block ∉ av)) (hMa : M ∉ av) (hba : bm ∉ av) (hav : ∀ k ∈ av, k < w.heap.size) (hO : OkI s) (hfo : FOk fs) (hf10 : fs.length ≤ 10) (hj : j ≤ 2000) (hg0 : (g (j : Int)).getD nilS = .slice a0 (fltN fs j).length c0) (hF0 : RdFl w a0 (fltN fs j)) (hn0 : fltN fs j ≠ [] → ∀ b, a0 = some b → b.block ≠ M) :
    Calls Tryz.prog 46 #[.pointer (some ⟨M, 0, none⟩)] w (fun e w' => e = .returned (.tuple #[]) ∧ TW av w' M (do12 fs j s) fs ((j : Int) + 1) ∧ OldB [M] w w') := by
 have HR := hid hR; have HfM := hid hfM; have Hfl := hid hfl; have HO := hid hO; have Hfo := hid hfo; have Hg0 := hid hg0; have HF0 := hid hF0; have Hn0 := hid hn0; have Hmp := hid hmp; clear hR hfM hfl hO hfo hg0 hF0 hn0 hmp; have nbM : ¬ bm = M := hbM; have hfl10 : (fltN fs j).length ≤ 10 := Nat.le_trans (fltN_len _ _) hf10; have hl128 := HO.out.l0
 have hsl : s.store.length ≤ 1000 := by omega
 have Hl128 := hid hl128; clear hl128; have wj : IntKind.i64.wrap ((j : Int) + 1) = j + 1 := IntWalk.i64_in _ (by omega); have kM := hM
 refine enter_F Tryz.func46 rfl Tryz.ntmps46 (by simp) ?_
 intro s0 hs; have sl0 : s0 0 = .pointer (some ⟨M, 0, none⟩) := hs 0 (by simp); clear hs; have HB := hid (OldB.refl [M] w); have qM := kM.1
 refine zx ?_; intros
 have cM := clx kM; refine rgQ 8 [?_,?_,?_,?_,?_,?_,?_,?_] ?walk29 ?dep29
 case walk29 =>
  iterate 8 refine rq ?_
  refine walkR_nil (fun X hX w1 hwz hcz => ?_); clear hX hcz
  (try clear X)
  skip; have hb2 := hwz.unDrew; clear hwz; clear cM; clear qM; revert HB; revert kM; refine uO hb2 ?_; clear hb2; intro kM qM HB; refine listF_step rfl (fun K' hK => ?_); refine opF_look (d := 13) (T := 92) (kt := 3) (E := 25) (kv := kvI) rfl (by decide) (.tmp 8) (.tmp 12) false rfl KI Tryz.underlying92 (zeroFl _) (MapV.oldB Hmp.out HB.out (by simpa using nbM)) (j : Int) (by go_simp) (by go_simp) (keyI (by omega)) ?_
  simp only [Bool.false_eq_true, if_false]
  rw [Hg0.out]; refine hK _ _ ?_; clear hK K'; refine pl ?_; refine lx [2] ?_; clear sl0; intro s5 sl0 sl2; refine ln ?_; intros
  have hj6_0 := hid sl0; have hj6_2 := hid sl2; refine cut_any (fun sJ wJ => sJ 24 = .bool (decide (0 < (fltN fs j).length ∧ s.why = 0)) ∧ sJ 0 = s5 0 ∧ sJ 2 = s5 2 ∧ OldB [] w1 wJ) ?_ ?_
  ·skip
   have HL7 := hid (OldB.refl [] w1); refine region_F ?_
   refine P4 ?_
   refine lx [17] ?_; clear sl0 sl2; intro s8 sl0 sl2 sl17
   refine boolG sl17 (fun sl17' h17 => ?_) (fun sl17' h17 => ?_) <;> (clear sl17; have sl17 := sl17'; clear sl17')
   ·skip
    iterate 4 refine py ?_
    have cM := clx kM; refine py ?_; refine py ?_; refine pl ?_; clear sl17; refine lx [24] ?_; clear sl0 sl2; intro s9 sl0 sl2 sl24; refine ln ?_; intros
    clear cM; exact ⟨trv, _, rfl, (by rw [sl24]; have h := h17; simp at h; congr 1; rw [Bool.eq_iff_iff]; simp [h]), (sl0.trans hj6_0.out.symm), (sl2.trans hj6_2.out.symm), HL7.out⟩
   ·skip
    refine F6 ?_; refine pl ?_; clear sl17; refine lx [24] ?_; clear sl0 sl2; intro s10 sl0 sl2 sl24; refine ln ?_; intros
    exact ⟨trv, _, rfl, (by rw [sl24]; have h := h17; simp at h; simp [h]), (sl0.trans hj6_0.out.symm), (sl2.trans hj6_2.out.symm), HL7.out⟩
  ·skip
   rintro s11 w12 ⟨sl24, e0, e2, hb13⟩; replace sl0 := e0.trans sl0; clear e0 hj6_0; replace sl2 := e2.trans sl2; clear e2 hj6_2; clear qM; revert HB; revert kM; refine uO hb13 ?_; clear hb13; intro kM qM HB
   refine zx ?_; intros
   have hj14_0 := hid sl0; refine cut_any (fun sJ wJ => ∃ (s1 : St4) (A1 : SA), sJ 0 = s11 0 ∧ OldB [M] w12 wJ ∧ Cells wJ M (tC s1 A1 bm (j : Int)) ∧ (RdSt wJ s1 A1) ∧ (Hid (go4 s1 = do12 fs j s)) ∧ (Hid (OkI s1))) ?_ ?_
   ·skip
    have HL15 := hid (OldB.refl [M] w12)
    refine cond_E sl24 (by decide) ?_ ?_ <;> (clear sl24; intro h24 sl24)
    ·skip
     have Hc := hid (show 0 < (fltN fs j).length ∧ s.why = 0 by simpa using h24); clear h24
     refine nr ?_; intros
     refine P5 ?_
     have cM := clx kM; refine pl ?_; refine cal (cloneInt_any A.sa A.sc s.store _ hsl (RdSt.oldK HR.out HfM.out HB.out).st) ?_; rintro e w16 ⟨v31, rfl, hO31, hb17⟩; obtain ⟨G, cG, rfl, hgG, -⟩ := (Own.form hO31).resolve_left (fun h => by have h9 := Hl128.out; rw [h.2] at h9; simp at h9)
     have gG : w.heap.size ≤ G := by have := HB.out.size; omega
     have kG0 := Own.toCells hO31
     have hMG : M < G := by have := kM.1; omega
     clear hO31; refine ⟨_, rfl, ?_⟩; clear cM; clear qM; revert HB; revert HL15; revert kM; refine uA hb17 ?_; clear hb17; intro kM qM HL15 HB; have kG := kG0; clear kG0; have qG := kG.1
     refine P3 ?_
     have cM := clx kM; have zM := kM.2.2; refine pl ?_; refine sto kM ?_; clear kM cM zM; intro w18 kM hb19; clear qM qG; revert HB; revert HL15; revert kG; refine uO hb19 ?_; clear hb19; intro kG qG HL15 HB; have qM := kM.1; clear sl24; refine lx [] ?_; clear sl0 sl2; intro s20 sl0 sl2; refine lr ?_; intros
     refine P3 ?_
     clear sl2; refine lx [35,36,37] ?_; clear sl0; intro s21 sl0 sl35 sl36 sl37; refine ln ?_; intros
     have hc0_0 := hid sl0; have hc0_35 := hid sl35; have hc0_36 := hid sl36; refine loop_F (n := 73) (fun kJ sJ wJ => ∃ (i : Nat) (L : List Int), kJ = (fltN fs j).length - i ∧ sJ 37 = .int .i64 (i : Int) ∧ sJ 0 = s21 0 ∧ sJ 35 = s21 35 ∧ sJ 36 = s21 36 ∧ OldB [G] w18 wJ ∧ Cells wJ G (L.flatMap int1) ∧ i ≤ (fltN fs j).length ∧ Hid (L = hitL ((fltN fs j).take i) s.store) ∧ Hid (L.length = s.store.length)) ⟨0, s.store, rfl, (by first | exact sl37 | (rw [sl37]; go_num) | (rw [sl37]; rfl)), rfl, rfl, rfl, OldB.refl _ _, (by first | (with_reducible exact kG) | (apply Cells.conv; (focus (exact kG)); (first | rfl | (simp; done)))), Nat.zero_le _, hid rfl, hid rfl⟩ ?_; clear sl37; rintro kJ s22 w23 ⟨i, L, rfl, sl37, e0, e35, e36, hb24, mG', hil, HLL, hlL⟩; replace sl0 := e0.trans sl0; clear e0; replace sl35 := e35.trans sl35; clear e35; replace sl36 := e36.trans sl36; clear e36; have hoJ := hb24; clear qM qG; replace kG := mG'
     revert HB; revert HL15; revert kM; refine uO hb24 ?_; clear hb24; intro kM qM HL15 HB; have qG := kG.1; clear mG'; have HoJ := hid hoJ; clear hoJ; have HL25 := HoJ; clear HoJ
     refine nr ?_; intros; refine pl ?_; refine lx [38] ?_; clear sl0 sl35 sl36 sl37; intro s26 sl0 sl35 sl36 sl37 sl38; refine ln ?_; intros
     refine cond_E sl38 (by decide) ?_ ?_ <;> (clear sl38; intro h38 sl38)
     ·skip
      have hi : i < (fltN fs j).length := by simpa using h38
      have hii : (i : Int) < (fltN fs j).length := by omega
      obtain ⟨bf, of, hae, hbs, d0, d1, d2⟩ := RdFl.ne (Rd.oldN HF0.out HB.out (fun hl b hb hm => Hn0.out hl b hb (by simpa using hm))) hi; subst hae; obtain ⟨y, hy⟩ : ∃ y, (fltN fs j)[i] = y := ⟨_, rfl⟩; rw [hy] at d0 d1 d2; have hyf := Hfo.out y ((List.mem_filter.1 (by rw [← hy]; exact List.getElem_mem hi : y ∈ fltN fs j)).1); obtain ⟨q, hq⟩ := Int.eq_ofNat_of_zero_le hyf.2.1.1
      have hqL : q < L.length := by rw [hlL.out, Hl128.out]; omega
      have hqs : (q : Int) < s.store.length := by rw [Hl128.out]; omega
      rw [hq] at d1; have Hq := hid hq; have Hyf := hid hyf
      have hqn : (q : Int) ≤ 127 := by omega
      obtain ⟨z, hz⟩ : ∃ z, L[q] = z := ⟨_, rfl⟩
      have hzb : 0 ≤ z ∧ z ≤ 16777215 := by rw [← hz]; exact hitL_in (l := (fltN fs (j : Int)).take i) (st := s.store) (fun f hf => (Hfo.out f ((List.mem_filter.1 (List.mem_of_mem_take hf)).1)).2.2) HO.out.w0 _ (by rw [← HLL.out]; exact List.getElem_mem hqL)
      have hxr := i64_xor hzb (show 0 ≤ y.mask ∧ y.mask ≤ 16777215 by omega); have Hn := hid (hitL_succ hi hy HLL.out Hq.out hqL hz); have Hz := hid hz; clear hy hq hyf hz
      refine nr ?_; intros; refine P2 ?_; refine pa (fun w27 B4 hB kb4 hb28 => ?_); have gb4 := HB.out.gB hB; have lHL15_b4 := HL15.out.gB hB; have lHL25_b4 := HL25.out.gB hB; have oM_b4 := oB qM hB; have oG_b4 := oB qG hB; have eb4 := eB hB; clear hB; clear qM qG; revert HB; revert HL25; revert HL15; revert kG; revert kM; refine uA hb28 ?_; clear hb28; intro kM qM kG qG HL15 HL25 HB; have qb4 := kb4.1; have cb4 := clx kb4; have zb4 := kb4.2.2; refine pl ?_; refine sto kb4 ?_; clear kb4 cb4 zb4; intro w29 kb4 hb30; clear qM qG qb4; revert HB; revert HL25; revert HL15; revert kG; revert kM; refine uO hb30 ?_; clear hb30; intro kM qM kG qG HL15 HL25 HB; have qb4 := kb4.1; clear sl38; refine lx [4] ?_; clear sl0 sl35 sl36 sl37; intro s31 sl0 sl35 sl36 sl37 sl4; refine ln ?_; intros
      have cgz := ints_cell kG hqL; rw [Hz.out] at cgz; have cM := clx kM; have cb4 := clx kb4; refine rgQ 11 [?_,?_,?_,?_,?_,?_,?_,?_,?_,?_,?_] ?walk30 ?dep30
      case walk30 =>
       iterate 11 refine rq ?_
       refine walkR_nil (fun X hX w32 hwz hcz => ?_); clear hX hcz
       (try clear X)
       skip; have hb33 := hwz.unDrew; clear hwz; clear cM cb4; clear qM qG qb4; revert HB; revert HL25; revert HL15; revert kb4; revert kG; revert kM; refine uO hb33 ?_; clear hb33; intro kM qM kG qG kb4 qb4 HL15 HL25 HB; clear cgz; refine P2 ?_; have zG := kG.2.2; have cgt := ints_cell kG hqL; refine pl ?_; refine listF_absw ?_; intro w34 hw'; have kG' := cells_of hw' (Cells.set (kG)); rw [ints_set] at kG'; clear cgt; have hb35 : OldB [G] w32 w34 := oldset hw'; clear hw'; clear zG; clear qM qG qb4; replace kG := kG'; revert HB; revert HL25; revert HL15; revert kb4; revert kM; refine uO hb35 ?_; clear hb35; intro kM qM kb4 qb4 HL15 HL25 HB; have qG := kG.1; clear kG'; clear sl4; refine lx [] ?_; clear sl0 sl35 sl36 sl37; intro s36 sl0 sl35 sl36 sl37; refine lr ?_; intros; refine P2 ?_; clear sl37; refine lx [37] ?_; clear sl0 sl35 sl36; intro s37 sl0 sl35 sl36 sl37; refine ln ?_; intros
       refine ⟨_, _, rfl, ?_, i + 1, (L.set q (xorI z y.mask)), rfl, (rL sl37), (sl0.trans hc0_0.out.symm), (sl35.trans hc0_35.out.symm), (sl36.trans hc0_36.out.symm), HL25.out, (by first | (with_reducible exact kG) | (apply Cells.conv; (focus (exact kG)); (first | rfl | (simp; done)))), by omega, hid Hn.out.symm, hid (by rw [List.length_set]; exact hlL.out)⟩
       omega
      case dep30 => exact dA
     ·skip
      have hi : i = (fltN fs j).length := by have h := h38; simp at h; omega
      have HL9 := hid (show L = hitS fs (j : Int) s.store by rw [HLL.out, hi, List.take_length]; rfl)
      refine zx ?_; intros
      clear HL25; clear hc0_0 hc0_35 hc0_36; exact ⟨trv, _, rfl, (hit4 s fs (j : Int)), ⟨some ⟨G, 0, none⟩, cG, A.ta, A.tc, A.pa, A.pc⟩, (sl0.trans hj14_0.out.symm), HL15.out, (by first | exact kM | (have hz := kM; rw [← hitS_len (j : Int) fs s.store] at hz; exact hz)), ⟨by rw [show (hit4 s fs (j : Int)).store = L from HL9.out.symm]; exact Cells.rd (f := int1) (m := 1) (fun _ => rfl) kG, (RdSt.oldK HR.out HfM.out HB.out).tp, (RdSt.oldK HR.out HfM.out HB.out).pr⟩, hid (by rw [do_go, if_pos Hc.out.2]), hid (hit_ok HO.out Hfo.out _)⟩
    ·skip
     have Hc := hid (show ¬ (0 < (fltN fs j).length ∧ s.why = 0) by simpa using h24); clear h24
     refine zx ?_; intros
     exact ⟨trv, _, rfl, s, A, (sl0.trans hj14_0.out.symm), HL15.out, (by first | exact kM | (have hz := kM; rw [← hitS_len (j : Int) fs s.store] at hz; exact hz)), (RdSt.oldK HR.out HfM.out HB.out), hid (by rw [do_go]; split; (rename_i hw; rw [hit_none (show fs.filter (fun f => decide (f.done = (j : Int))) = [] from List.eq_nil_of_length_eq_zero (by have h9 : ¬ (0 < (fltN fs j).length ∧ s.why = 0) := Hc.out; unfold fltN at h9; omega))]); rfl), HO⟩
   ·skip
    clear sl2 sl24; rintro s38 w39 ⟨s1, A1, e0, hb40, mM', HR1, HS1, HO1⟩; replace sl0 := e0.trans sl0; clear e0 hj14_0; clear qM; replace kM := mM'; replace HB := mO HB hb40; clear hb40; have qM := kM.1; clear mM'; have HL1 := hid (show LenI s1 from ⟨by have := HO1.out.l0; omega, by have := HO1.out.l1; omega, by have := HO1.out.l2; omega⟩)
    refine nr ?_; intros
    refine P4 ?_
    have cM := clx kM; refine pl ?_; refine cal (oRun_any s1 A1 1 _ HR1 HL1.out) ?_; rintro e w41 ⟨A2, rfl, HR2, hnw, hb42⟩; rw [show openErr s1 1 = 0 from open_zero.2 ⟨HO1.out, by omega, by omega⟩]; rw [runO_1 HO1.out, HS1.out] at HR2 hnw; rw [runO_1 HO1.out, HS1.out]; have HfM2 := hid (hnw M kM.1); have Hnw := hid (show ∀ k ∈ av, A2.free (do12 fs j s) k from fun k hk => hnw k (by have := hav k hk; have := HB.out.size; omega)); clear hnw; refine ⟨_, rfl, ?_⟩; clear cM; clear qM; replace HR1 := RdSt.at HR1 hb42; revert HB; revert kM; refine uA hb42 ?_; clear hb42; intro kM qM HB; clear HR1
    refine P5 ?_
    have cM := clx kM; have zM := kM.2.2; refine pl ?_; refine sto kM ?_; clear kM cM zM; intro w43 kM hb44; clear qM; replace HR2 := RdSt.oldK HR2 HfM2.out hb44; replace HB := mO HB hb44; clear hb44; have qM := kM.1; refine lx [] ?_; clear sl0; intro s45 sl0; refine lr ?_; intros
    refine P3 ?_
    have cM := clx kM
    refine P4 ?_
    have zM := kM.2.2; refine pl ?_; refine sto kM ?_; clear kM cM zM; intro w46 kM hb47; clear qM; replace HR2 := RdSt.oldK HR2 HfM2.out hb47; replace HB := mO HB hb47; clear hb47; have qM := kM.1; clear sl0; refine lx [] ?_; intro s48; refine ln ?_; intros
    refine norm_F _ (res_none Tryz.results46) ?_; exact ⟨rfl, ⟨A2, bm, k, g, kM, HR2, HfM2.out, MapV.oldB Hmp.out HB.out (by simpa using nbM), hbM, fun n => by obtain ⟨a, c, h1, h2, h3⟩ := Hfl.out n; exact ⟨a, c, h1, Rd.oldN h2 HB.out (fun hl b hb hm => (h3 hl b hb).1 (by simpa using hm)), h3⟩, hMa, hba, Hnw.out⟩, HB.out⟩
 case dep29 => exact dA
end


end Go.Proofs.YtleknidlgmmgbaaGreat
