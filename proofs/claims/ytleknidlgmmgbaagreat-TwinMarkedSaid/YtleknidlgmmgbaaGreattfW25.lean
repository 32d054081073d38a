/- The program: Differ. -/
import Derived.Test.YtleknidlgmmgbaaGreattfW24
import Derived.Test.YtleknidlgmmgbaaGreattfCZ
set_option linter.all false
namespace Go.Proofs.YtleknidlgmmgbaaGreat

open Go.RowKit


abbrev Mrk.cs (x : Mrk) : List Value := [.int .i64 x.done, .int .i64 x.pc, .int .i64 x.sl]
abbrev RdMk := Rd Mrk.cs 3
theorem RdMk.ne {w : World} {a : Option Addr} {l : List Mrk} (h : RdMk w a l) {k : Nat} (hk : k < l.length) :
    ∃ b off, a = some ⟨b, off, none⟩ ∧ b < w.heap.size ∧ w.cell? ⟨b, off + k * 3, none⟩ = some (.int .i64 l[k].done) ∧ w.cell? ⟨b, off + k * 3 + 1, none⟩ = some (.int .i64 l[k].pc) ∧ w.cell? ⟨b, off + k * 3 + 2, none⟩ = some (.int .i64 l[k].sl) := by
  obtain ⟨b, off, ha, hb, hc⟩ := Rd.ne h hk; exact ⟨b, off, ha, hb, by simpa using hc 0 _ rfl, hc 1 _ rfl, hc 2 _ rfl⟩
theorem mrk_eq (x y : Mrk) : x = y ↔ x.done = y.done ∧ x.pc = y.pc ∧ x.sl = y.sl := by cases x; cases y; simp
/-- what Differ answers -/
def difR (a b : List Mrk) : Int × Int := if a.length ≠ b.length then (0, 2) else (idxOf (fun (x : Mrk × Mrk) => decide (x.1 ≠ x.2)) (a.zip b), 0)
theorem dif_found {a b : List Mrk} (h : a.length = b.length) {k : Nat} (hk : k < a.length) (h1 : a.take k = b.take k) (h2 : a[k] ≠ b[k]'(h ▸ hk)) : difR a b = ((k : Int), 0) := by
  unfold difR; rw [if_neg (by simp [h]), idx_found (k := k) (by simp; omega) ?_ (by simpa using h2)]; rw [List.any_eq_false]; intro x hx; rw [List.zip, List.take_zipWith] at hx
  have h3 : ∀ (l : List Mrk) (p : Mrk × Mrk), p ∈ List.zipWith Prod.mk l l → p.1 = p.2 := by
    intro l p hp; obtain ⟨i, hi, rfl⟩ := List.mem_iff_getElem.1 hp
    simp
  rw [h1] at hx
  simp [h3 _ _ hx]
theorem dif_none {a b : List Mrk} (h : a = b) : difR a b = (-1, 0) := by
  subst h; unfold difR; rw [if_neg (by simp), idx_none]; rw [List.any_eq_false]; intro x hx; obtain ⟨i, hi, rfl⟩ := List.mem_iff_getElem.1 hx
  simp

theorem XW25b {A B1 : Prop} (hX1 : B1) (e : B1 → A := by exact ret_F _ (res_tt Tryz.results34 ((getD_F (by decide)).trans sl4) ((getD_F (by decide)).trans sl5))) : A := e hX1
set_option maxRecDepth 100000 in
set_option maxHeartbeats 4000000 in
theorem tDiffer_any (al : Option Addr) (cl : Nat) (l : List Mrk) (am : Option Addr) (cm : Nat) (m : List Mrk) (w : World) (hRl : RdMk w al l) (hRm : RdMk w am m) (hll : l.length ≤ 9223372036854775807) (hlm : m.length ≤ 9223372036854775807) :
    Calls Tryz.prog 34 #[.slice al l.length cl, .slice am m.length cm] w (fun e w' => e = .returned (.tuple #[.int .i64 (difR l m).1, .int .i64 (difR l m).2]) ∧ Below w.heap.size w w') := by
 have HRl := hid hRl; have HRm := hid hRm; clear hRl hRm
 refine enter_F Tryz.func34 rfl Tryz.ntmps34 (by simp) ?_
 intro s0 hs; have sl0 : s0 0 = .slice al l.length cl := hs 0 (by simp); have sl1 : s0 1 = .slice am m.length cm := hs 1 (by simp); clear hs; have HB := hid (OldB.refl [] w)
 refine nr ?_; intros; refine P2 ?_; refine lx [] ?_; clear sl0 sl1; intro _ sl0 sl1; refine lr ?_; intros
 refine P5 ?_
 refine lx [12] ?_; clear sl0 sl1; intro _ sl0 sl1 sl12; refine ln ?_; intros
 refine cond_E sl12 (by decide) ?_ ?_ <;> (clear sl12; intro h12 sl12)
 ·skip
  have Hr := hid (show difR l m = (0, 2) by unfold difR; rw [if_pos (fun e => by have h := h12; rw [e] at h; simp at h)])
  refine nr ?_; intros; refine P2 ?_; clear sl0 sl1 sl12; refine lx [4,5] ?_; intro _ sl4 sl5; refine ln ?_; intros
  refine XW25b ?_; exact ⟨by rw [Hr.out], HB.out.toBelow⟩
 ·skip
  have hlen : (l.length : Int) = m.length := by have h := h12; simp at h; omega
  have Hlen := hid (show l.length = m.length by omega); clear hlen
  refine nr ?_; intros
  refine P3 ?_
  clear sl0 sl12; refine lx [13,14,15] ?_; clear sl1; intro s4 sl1 sl13 sl14 sl15; refine ln ?_; intros
  have hc0_1 := hid sl1; have hc0_13 := hid sl13; have hc0_14 := hid sl14; refine loop_F (n := 28) (fun kJ sJ wJ => ∃ (i : Nat), kJ = l.length - i ∧ sJ 15 = .int .i64 (i : Int) ∧ sJ 1 = s4 1 ∧ sJ 13 = s4 13 ∧ sJ 14 = s4 14 ∧ OldB [] w wJ ∧ i ≤ l.length ∧ Hid (l.take i = m.take i)) ⟨0, rfl, (by first | exact sl15 | (rw [sl15]; go_num) | (rw [sl15]; rfl)), rfl, rfl, rfl, OldB.refl _ _, Nat.zero_le _, hid rfl⟩ ?_; clear sl15; rintro kJ s5 w6 ⟨i, rfl, sl15, e1, e13, e14, hb, hil, Htk⟩; replace sl1 := e1.trans sl1; clear e1; replace sl13 := e13.trans sl13; clear e13; replace sl14 := e14.trans sl14; clear e14; have hoJ := hb; replace HB := mO HB hb; clear hb; have HoJ := hid hoJ; clear hoJ; have HL8 := HoJ; clear HoJ
  refine nr ?_; intros; refine pl ?_; refine lx [16] ?_; clear sl1 sl13 sl14 sl15; intro _ sl1 sl13 sl14 sl15 sl16; refine ln ?_; intros
  refine cond_E sl16 (by decide) ?_ ?_ <;> (clear sl16; intro h16 sl16)
  ·skip
   have hi : i < l.length := by simpa using h16
   have hii : (i : Int) < l.length := by omega
   have hi2 : i < m.length := by have := Hlen.out; omega
   have hii2 : (i : Int) < m.length := by omega
   obtain ⟨bl, ol, hal, hbl, c0, c1, c2⟩ := RdMk.ne (Rd.oldB HRl.out HB.out (by simp)) hi; subst hal; obtain ⟨bm, om, ham, hbm, d0, d1, d2⟩ := RdMk.ne (Rd.oldB HRm.out HB.out (by simp)) hi2; subst ham; obtain ⟨y, hy⟩ : ∃ z, l[i] = z := ⟨_, rfl⟩; obtain ⟨z, hz⟩ : ∃ z, m[i] = z := ⟨_, rfl⟩; rw [hy] at c0 c1 c2; rw [hz] at d0 d1 d2; have Hy := hid hy; have Hz := hid hz; have Hm := hid (show bm < w6.heap.size from hbm); clear hy hz
   refine nr ?_; intros
   refine P3 ?_
   refine pa (fun _ B7 hB kb7 hb => ?_); have gb7 := HB.out.gB hB; have lHL8_b7 := HL8.out.gB hB; have eb7 := eB hB; clear hB; revert HB; revert HL8; refine zA hb ?_; clear hb; intro HL8 HB; have qb7 := kb7.1; refine pl ?_; have cb7 := clx kb7; have zb7 := kb7.2.2; refine pl ?_; refine sto kb7 ?_; clear kb7 cb7 zb7; intro _ kb7 hb; clear qb7; revert HB; revert HL8; refine zO hb ?_; clear hb; intro HL8 HB; have qb7 := kb7.1; clear sl16; refine lx [6,7] ?_; clear sl1 sl13 sl14 sl15; intro _ sl1 sl13 sl14 sl15 sl6 sl7; refine ln ?_; intros
   clear d0 d1 d2 hbm c0 c1 c2; obtain ⟨bm', om', ham', hbm, d0, d1, d2⟩ := RdMk.ne (Rd.oldB HRm.out HB.out (by simp)) hi2
   cases ham'
   rw [Hz.out] at d0 d1 d2; have cb7 := clx kb7; refine rgQ 5 [?_,?_,?_,?_,?_] ?walk28 ?dep28
   case walk28 =>
    iterate 5 refine rq ?_
    refine walkR_nil (fun X hX w15 hwz hcz => ?_); clear hX hcz
    (try clear X)
    skip; have hb := hwz.unDrew; clear hwz; clear cb7; clear qb7; revert HB; revert HL8; revert kb7; refine uO hb ?_; clear hb; intro kb7 qb7 HL8 HB; clear d0 d1 d2; refine listF_step rfl (fun K' hK => ?_); unfold opF; go_simp
    suffices hs : K' (.bool (decide (¬ (y.done = z.done ∧ y.pc = z.pc ∧ y.sl = z.sl)))) w15 by (by_cases q1 : y.done = z.done <;> by_cases q2 : y.pc = z.pc <;> by_cases q3 : y.sl = z.sl <;> simp [q1, q2, q3] at hs ⊢ <;> exact hs)
    refine hK _ _ ?_; clear hK K'; clear sl7; refine lx [25] ?_; clear sl1 sl6 sl13 sl14 sl15; intro _ sl1 sl6 sl13 sl14 sl15 sl25; refine ln ?_; intros
    refine cond_E sl25 (by decide) ?_ ?_ <;> (clear sl25; intro h25 sl25)
    ·skip
     have Hr := hid (dif_found Hlen.out hi Htk.out (by rw [Hy.out, Hz.out, Ne, mrk_eq]; exact of_decide_eq_true h25))
     refine nr ?_; intros
     refine P3 ?_
     clear sl1 sl6 sl13 sl14 sl15 sl25; refine lx [4,5] ?_; intro _ sl4 sl5; refine ln ?_; intros
     refine XW25b ?_; exact ⟨by rw [Hr.out], HB.out.toBelow⟩
    ·skip
     have hyz : y = z := by rw [mrk_eq]; exact Decidable.not_not.1 (of_decide_eq_false h25)
     refine nr ?_; intros; refine P2 ?_; clear sl15 sl6 sl25; refine lx [15] ?_; clear sl1 sl13 sl14; intro _ sl1 sl13 sl14 sl15; refine ln ?_; intros
     refine ⟨_, _, rfl, ?_, i + 1, rfl, (rL sl15), (sl1.trans hc0_1.out.symm), (sl13.trans hc0_13.out.symm), (sl14.trans hc0_14.out.symm), HL8.out, by omega, hid (take_more hi hi2 Htk.out (by rw [Hy.out, Hz.out, hyz]))⟩
     omega
   case dep28 => exact dA
  ·skip
   have hi : i = l.length := by have h := h16; simp at h; omega
   have Hr := hid (dif_none (show l = m by have h1 := Htk.out; rw [hi, List.take_length, Hlen.out, List.take_length] at h1; exact h1))
   refine zx ?_; intros
   clear HL8; clear hc0_1 hc0_13 hc0_14; refine region_F ?_; refine P2 ?_; clear sl1 sl13 sl14 sl15 sl16; refine lx [4,5] ?_; intro _ sl4 sl5; refine ln ?_; intros
   refine XW25b ?_; exact ⟨by rw [Hr.out], HB.out.toBelow⟩

end Go.Proofs.YtleknidlgmmgbaaGreat
