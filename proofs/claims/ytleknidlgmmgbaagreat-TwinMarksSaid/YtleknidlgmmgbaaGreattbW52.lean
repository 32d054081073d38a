/- The reference's Differ. -/
import Derived.Test.YtleknidlgmmgbaaGreattbW25
import Derived.Test.YtleknidlgmmgbaaGreattbCX
set_option linter.all false
namespace Go.Proofs.YtleknidlgmmgbaaGreat

open Go.RowKit

set_option maxRecDepth 100000 in
set_option maxHeartbeats 4000000 in
theorem rDiffer_any (al : Option Addr) (cl : Nat) (l : List Mrk) (am : Option Addr) (cm : Nat) (m : List Mrk) (w : World) (hRl : RdMk w al l) (hRm : RdMk w am m) (hll : l.length ≤ 9223372036854775807) (hlm : m.length ≤ 9223372036854775807) :
    Calls Tryz.prog 35 #[.slice al l.length cl, .slice am m.length cm] w (fun e w' => e = .returned (.tuple #[.int .i64 (difR l m).1, .int .i64 (difR l m).2]) ∧ Below w.heap.size w w') := by
 have HRl := hid hRl; have HRm := hid hRm; clear hRl hRm
 refine enter_F Tryz.func35 rfl Tryz.ntmps35 (by simp) ?_
 intro s0 hs; have sl0 : s0 0 = .slice al l.length cl := hs 0 (by simp); have sl1 : s0 1 = .slice am m.length cm := hs 1 (by simp); clear hs; have HB := hid (OldB.refl [] w)
 repeat ((fail_if_success refine stp ?_); go_step)
 refine region_F ?_; refine pl ?_; refine pl ?_; refine lsa fun s1 z' => ?_; replace sl0 := slg z' sl0; replace sl1 := slg z' sl1; clear z'; refine lsn ?_
 repeat ((fail_if_success refine stp ?_); go_step)
 refine region_F ?_
 iterate 5 refine pl ?_
 refine lsa fun s2 z' => ?_; replace sl0 := slg z' sl0; replace sl1 := slg z' sl1; have sl11 := gu 11 z'; clear z'; refine lsn ?_
 repeat ((fail_if_success refine stp ?_); go_step)
 refine cond_E sl11 (by decide) ?_ ?_ <;> (clear sl11; intro h11 sl11)
 ·skip
  have Hr := hid (show difR l m = (0, 2) by unfold difR; rw [if_pos (fun e => by have h := h11; rw [e] at h; simp at h)])
  repeat ((fail_if_success refine stp ?_); go_step)
  refine region_F ?_; refine pl ?_; refine pl ?_; refine lsa fun s3 z' => ?_; have sl4 := gu 4 z'; have sl5 := gu 5 z'; clear z' sl0 sl1 sl11; refine lsn ?_
  repeat ((fail_if_success refine stp ?_); go_step)
  refine ret_F _ (res_tt Tryz.results35 ((getD_F (by decide)).trans sl4) ((getD_F (by decide)).trans sl5)) ?_; exact ⟨by rw [Hr.out], HB.out.toBelow⟩
 ·skip
  have hlen : (l.length : Int) = m.length := by have h := h11; simp at h; omega
  have Hlen := hid (show l.length = m.length by omega); clear hlen
  repeat ((fail_if_success refine stp ?_); go_step)
  refine region_F ?_; refine pl ?_; refine lsa fun s4 z' => ?_; replace sl0 := slg z' sl0; replace sl1 := slg z' sl1; have sl6 := gu 6 z'; clear z' sl11; refine lsn ?_
  repeat ((fail_if_success refine stp ?_); go_step)
  have hc0_0 := hid sl0; have hc0_1 := hid sl1; refine loop_F (n := 28) (fun kJ sJ wJ => ∃ (i : Nat), kJ = l.length - i ∧ sJ 6 = .int .i64 (i : Int) ∧ sJ 0 = s4 0 ∧ sJ 1 = s4 1 ∧ OldB [] w wJ ∧ i ≤ l.length ∧ Hid (l.take i = m.take i)) ⟨0, rfl, (by first | exact sl6 | (rw [sl6]; go_num) | (rw [sl6]; rfl)), rfl, rfl, OldB.refl _ _, Nat.zero_le _, hid rfl⟩ ?_; clear sl6; rintro kJ s5 w6 ⟨i, rfl, sl6, e0, e1, hb7, hil, Htk⟩; replace sl0 := e0.trans sl0; clear e0; replace sl1 := e1.trans sl1; clear e1; have hoJ := hb7; replace HB := mO HB hb7; clear hb7; have HoJ := hid hoJ; clear hoJ; have HL8 := HoJ; clear HoJ
  repeat ((fail_if_success refine stp ?_); go_step)
  refine region_F ?_
  iterate 4 refine pl ?_
  refine lsa fun s9 z' => ?_; replace sl0 := slg z' sl0; replace sl1 := slg z' sl1; replace sl6 := slg z' sl6; have sl15 := gu 15 z'; clear z'; refine lsn ?_
  repeat ((fail_if_success refine stp ?_); go_step)
  refine cond_E sl15 (by decide) ?_ ?_ <;> (clear sl15; intro h15 sl15)
  ·skip
   have hi : i < l.length := by simpa using h15
   have hii : (i : Int) < l.length := by omega
   have hi2 : i < m.length := by have := Hlen.out; omega
   have hii2 : (i : Int) < m.length := by omega
   obtain ⟨bl, ol, hal, hbl, c0, c1, c2⟩ := RdMk.ne (Rd.oldB HRl.out HB.out (by simp)) hi; subst hal; obtain ⟨bm, om, ham, hbm, d0, d1, d2⟩ := RdMk.ne (Rd.oldB HRm.out HB.out (by simp)) hi2; subst ham; obtain ⟨y, hy⟩ : ∃ z, l[i] = z := ⟨_, rfl⟩; obtain ⟨z, hz⟩ : ∃ z, m[i] = z := ⟨_, rfl⟩; rw [hy] at c0 c1 c2; rw [hz] at d0 d1 d2; have Hy := hid hy; have Hz := hid hz; clear hy hz
   repeat ((fail_if_success refine stp ?_); go_step)
   refine regionR_F [] [] [] [.q [], .q [], .q [], .q [], .q [], .q [], .q [], .q []] [?v36_0, ?v36_1, ?v36_2, ?v36_3, ?v36_4, ?v36_5, ?v36_6, ?v36_7] [fun _ => [], fun _ => [], fun _ => [], fun _ => [], fun _ => [], fun _ => [], fun _ => [], fun _ => []] (by kernel_rfl) (by kernel_rfl) (by kernel_rfl) (by kernel_rfl) (by kernel_rfl) (by first | exact List.nodup_nil | exact List.nodup_singleton _ | (simp; done) | (simp; omega)) bc_nil ?walk36 ?dep36
   case walk36 =>
    iterate 8 refine rq ?_
    refine walkR_nil (fun X hX w10 hwz hcz => ?_); clear hX hcz
    (try clear X)
    skip; have hb11 := hwz.unDrew; clear hwz; replace HL8 := mO HL8 hb11; replace HB := mO HB hb11; clear hb11; refine listF_step rfl (fun K' hK => ?_); unfold opF; go_simp
    suffices hs : K' (.bool (decide (¬ (y.done = z.done ∧ y.pc = z.pc ∧ y.sl = z.sl)))) w10 by (by_cases q1 : y.done = z.done <;> by_cases q2 : y.pc = z.pc <;> by_cases q3 : y.sl = z.sl <;> simp [q1, q2, q3] at hs ⊢ <;> exact hs)
    refine hK _ _ ?_; clear hK K'; refine lsa fun s14 z' => ?_; replace sl0 := slg z' sl0; replace sl1 := slg z' sl1; replace sl6 := slg z' sl6; have sl26 := gu 26 z'; clear z' sl15; refine lsn ?_
    repeat ((fail_if_success refine stp ?_); go_step)
    refine cond_E sl26 (by decide) ?_ ?_ <;> (clear sl26; intro h26 sl26)
    ·skip
     have Hr := hid (dif_found Hlen.out hi Htk.out (by rw [Hy.out, Hz.out, Ne, mrk_eq]; exact of_decide_eq_true h26))
     repeat ((fail_if_success refine stp ?_); go_step)
     refine region_F ?_
     iterate 3 refine pl ?_
     refine lsa fun s15 z' => ?_; have sl4 := gu 4 z'; have sl5 := gu 5 z'; clear z' sl0 sl1 sl6 sl26; refine lsn ?_
     repeat ((fail_if_success refine stp ?_); go_step)
     refine ret_F _ (res_tt Tryz.results35 ((getD_F (by decide)).trans sl4) ((getD_F (by decide)).trans sl5)) ?_; exact ⟨by rw [Hr.out], HB.out.toBelow⟩
    ·skip
     have hyz : y = z := by rw [mrk_eq]; exact Decidable.not_not.1 (of_decide_eq_false h26)
     repeat ((fail_if_success refine stp ?_); go_step)
     refine region_F ?_
     iterate 3 refine pl ?_
     refine lsa fun s16 z' => ?_; replace sl0 := slg z' sl0; replace sl1 := slg z' sl1; replace sl6 := gu 6 z'; clear z' sl26; refine lsn ?_
     repeat ((fail_if_success refine stp ?_); go_step)
     refine ⟨_, _, rfl, ?_, i + 1, rfl, (rL sl6), (sl0.trans hc0_0.out.symm), (sl1.trans hc0_1.out.symm), HL8.out, by omega, hid (take_more hi hi2 Htk.out (by rw [Hy.out, Hz.out, hyz]))⟩
     omega
   case dep36 =>
     iterate 8 refine dR ?_
     exact depR_nil
  ·skip
   have hi : i = l.length := by have h := h15; simp at h; omega
   have Hr := hid (dif_none (show l = m by have h1 := Htk.out; rw [hi, List.take_length, Hlen.out, List.take_length] at h1; exact h1))
   repeat ((fail_if_success refine stp ?_); go_step)
   clear HL8; clear hc0_0 hc0_1; refine region_F ?_; refine pl ?_; refine pl ?_; refine lsa fun s17 z' => ?_; have sl4 := gu 4 z'; have sl5 := gu 5 z'; clear z' sl0 sl1 sl6 sl15; refine lsn ?_
   repeat ((fail_if_success refine stp ?_); go_step)
   refine ret_F _ (res_tt Tryz.results35 ((getD_F (by decide)).trans sl4) ((getD_F (by decide)).trans sl5)) ?_; exact ⟨by rw [Hr.out], HB.out.toBelow⟩

end Go.Proofs.YtleknidlgmmgbaaGreat
