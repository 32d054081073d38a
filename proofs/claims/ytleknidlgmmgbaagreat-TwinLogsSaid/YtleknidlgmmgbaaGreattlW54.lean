/- The reference's Log. -/
import Derived.Test.YtleknidlgmmgbaaGreattlW53
import Derived.Test.YtleknidlgmmgbaaGreattlW31
import Derived.Test.YtleknidlgmmgbaaGreattlW8
set_option linter.all false
namespace Go.Proofs.YtleknidlgmmgbaaGreat

open Go.RowKit


/-- what Log answers -/
def logR (s : St4) (fs : List Flt) (every most : Int) : List Mrk × Int :=
  if askErr12 s fs most ≠ 0 then ([], askErr12 s fs most) else if inI every 1 1000 = false then ([], 7) else (logL s fs every.toNat most.toNat, 0)
theorem logR_bad {s : St4} {fs : List Flt} {every most ea : Int} (h : askErr12 s fs most = ea) (he : ea ≠ 0) : logR s fs every most = ([], ea) := by unfold logR; rw [h, if_pos he]
theorem logR_bad2 {s : St4} {fs : List Flt} {every most : Int} (h : askErr12 s fs most = 0) (he : inI every 1 1000 = false) : logR s fs every most = ([], 7) := by unfold logR; rw [h, if_neg (by decide), if_pos he]
theorem logR_ok {s : St4} {fs : List Flt} {every most : Nat} (h : askErr12 s fs most = 0) (he : inI every 1 1000 = true) : logR s fs every most = (logL s fs every most, 0) := by
  unfold logR; rw [h, if_neg (by decide), if_neg (by rw [he]; decide), Int.toNat_natCast, Int.toNat_natCast]
def logU (s : St4) (fs : List Flt) (every most i : Nat) : List Mrk := (List.range i).map (markI s fs every most)
theorem logU_succ {s : St4} {fs : List Flt} {every most i : Nat} {s2 : St4} (h : run12 s fs (nn every most (i + 1)) = s2) : logU s fs every most (i + 1) = logU s fs every most i ++ [⟨(nn every most (i + 1) : Int), s2.pc, sealI' s2⟩] := by
  unfold logU; rw [List.range_succ, List.map_append]; subst h; rfl
theorem logU_len (s : St4) (fs : List Flt) (every most i : Nat) : (logU s fs every most i).length = i := by simp [logU]
theorem ends_at {every most i : Nat} (h : i < (endsL every most).length) : (endsL every most)[i] = (nn every most (i + 1) : Int) := by simp [endsL]; rfl
theorem ends_len (every most : Nat) : (endsL every most).length = cntN every most := by simp [endsL]
theorem info_mrk : (Tryz.prog.info? 85).map (fun i => (i.zero, i.size, i.bytes)) = some (some (.agg #[.int .i64 0, .int .i64 0, .int .i64 0]), 3, 24) := by kernel_rfl
theorem mrk_one (x : Mrk) : ∀ u ∈ Mrk.cs x, u.oneCell' = true := by intro u hu; simp [Mrk.cs] at hu; rcases hu with h | h | h <;> subst h <;> rfl
theorem RdSt.grown {w w' : World} {s : St4} {A : SA} {v : Value} (h : RdSt w s A) (hG : w.grownBy w' v.ownBlock) (hv : ∀ k, v.ownBlock = some k → A.free s k) : RdSt w' s A :=
  ⟨Rd.grown h.st hG (fun hn b hb e => (hv _ e).1 hn b hb rfl), Rd.grown h.tp hG (fun hn b hb e => (hv _ e).2.1 hn b hb rfl), Rd.grown h.pr hG (fun hn b hb e => (hv _ e).2.2 hn b hb rfl)⟩
theorem nn_mono' (every most i : Nat) : nn every most i ≤ nn every most (i + 1) := by unfold nn; rw [Nat.add_mul, Nat.one_mul]; omega
theorem rafter_nn (s : St4) (fs : List Flt) (ev mn i : Nat) (si s2 : St4) (A : SA) (af : Option Addr) (cf : Nat) (w : World) (h1 : run12 s fs (nn ev mn i) = si) (h2 : run12 s fs (nn ev mn (i + 1)) = s2) (hR : RdSt w si A) (hO : OkI si) (hfo : FOk fs) (hlf : fs.length ≤ 10) (hF : RdFl w af fs) (hm : mn ≤ 1000) :
    Calls Tryz.prog 50 #[sV si A, .slice af fs.length cf, .int .i64 (nn ev mn i : Int), .int .i64 (nn ev mn (i + 1) : Int)] w (fun e w' => ∃ A' : SA, e = .returned (.agg #[.slice A'.sa s2.store.length A'.sc, .slice A'.ta s2.tape.length A'.tc, .int .i64 s2.taken, .slice A'.pa s2.printed.length A'.pc, .int .i64 s2.time, .int .i64 s2.pc, .int .i64 s2.done, .int .i64 s2.why]) ∧ RdSt w' s2 A' ∧ Kept w.heap.size si A s2 A' ∧ Below w.heap.size w w') := by
  have h := rafter12_any si A af cf fs (nn ev mn i) (nn ev mn (i + 1)) w hR hO hfo hlf hF ⟨nn_mono' ev mn i, Nat.le_trans (nn_le ev mn (i + 1)) hm⟩
  have e : after12 fs (nn ev mn i) (nn ev mn (i + 1) - nn ev mn i) si = s2 := by rw [← h1, run12_add, ← h2]; congr 1; have := nn_mono' ev mn i; omega
  rw [e] at h; exact h

theorem XW54b {A : Prop} (e : A := by
 rintro sJ wJ hbJ hunJ hdJ
 have sv4 := (hunJ 4 (by decide) (un_of (by kernel_rfl))).trans Z4; have kJ := Y4.at hbJ; have qJ := kJ.1; obtain ⟨cJ_0, cJ_1, cJ_2, cJ_3, cJ_4, cJ_5, cJ_6, cJ_7⟩ := cl8 kJ; rw [if_pos (by rfl)]; exact oV) : A := e
theorem XW54c {A : Prop} (e : A := by
 rintro sJ wJ hbJ hunJ hdJ
 have sv13 := (hunJ 13 (by decide) (un_of (by kernel_rfl))).trans Z13; rw [if_pos (by rfl)]; exact oV) : A := e
theorem XW54d {A B1 : Prop} (hX1 : B1) (e : B1 → A := by exact ret_F _ (res_tt Tryz.results40 ((getD_F (by decide)).trans Z8) ((getD_F (by decide)).trans Z9))) : A := e hX1
set_option maxRecDepth 100000 in
set_option maxHeartbeats 16000000 in
theorem rLog_v (s : St4) (A : SA) (af : Option Addr) (cf : Nat) (fs : List Flt) (every most er : Int) (l : List Mrk) (w : World) (hR : RdSt w s A) (hL : LenI s) (hlf : fs.length ≤ 9223372036854775807) (hF : RdFl w af fs) (hlr : logR s fs every most = (l, er)) :
    Calls Tryz.prog 40 #[sV s A, .slice af fs.length cf, .int .i64 every, .int .i64 most] w (fun e w' => ∃ a c, e = .returned (.tuple #[.slice a l.length c, .int .i64 er]) ∧ RdMk w' a l ∧ Below w.heap.size w w') := by
 have HR := hid hR; have HL := hid hL; have HF := hid hF; have Hlr := hid hlr; clear hR hL hF hlr; obtain ⟨ea, hA⟩ : ∃ x, askErr12 s fs most = x := ⟨_, rfl⟩; have HA := hid hA; clear hA; obtain ⟨i0, hi0, hz0, hy0, hx0⟩ := info_parts info_mrk
 refine enter_F Tryz.func40 rfl Tryz.ntmps40 (by simp) ?_
 intro s0 hs; have Z0 : s0 0 = .agg #[.slice A.sa s.store.length A.sc, .slice A.ta s.tape.length A.tc, .int .i64 s.taken, .slice A.pa s.printed.length A.pc, .int .i64 s.time, .int .i64 s.pc, .int .i64 s.done, .int .i64 s.why] := hs 0 (by simp); have Z1 : s0 1 = .slice af fs.length cf := hs 1 (by simp); have Z2 : s0 2 = .int .i64 every := hs 2 (by simp); have Z3 : s0 3 = .int .i64 most := hs 3 (by simp); clear hs; have HB := hid (OldB.refl [] w)
 refine nr ?_; intros; refine pa (fun w1 B4 hB Y4 hb2 => ?_); have gb4 := HB.out.gB hB; have eb4 := eB hB; clear hB; replace HB := bE HB hb2; clear hb2; have Q4 := Y4.1; refine P2 ?_; clear Z0; refine lx [4] ?_; clear Z1 Z2 Z3; intro s3 Z1 Z2 Z3 Z4; refine lr ?_; intros; have cb4 := clx Y4
 refine P3 ?_
 refine cal (rasked_v s A af cf fs most ea _ (HR.out.old HB.out) HL.out (Rd.oldB HF.out HB.out (by simp)) hlf HA.out) ?_; rintro e w4 ⟨rfl, hb5⟩; refine ⟨_, rfl, ?_⟩; clear cb4; clear Q4; revert Y4 HB; refine uA hb5 ?_; clear hb5; intro Y4 Q4 HB; refine pl ?_; refine lx [10] ?_; clear Z1 Z2 Z3 Z4; intro s6 Z1 Z2 Z3 Z4 Z10; refine ln ?_; intros
 by_cases hea : ea = 0
 ·skip
  have h9 := ask12_zero.1 (HA.out.trans hea); obtain ⟨hOk, hl10, hfo, hm0, hm1⟩ := h9; have HOk := hid hOk; have Hfo := hid hfo; clear hOk hfo
  rcases Bool.eq_false_or_eq_true (inI every 1 1000) with hev | hev
  ·skip
   have h9 := (inI_iff _ _ _).1 hev; obtain ⟨ev, rfl⟩ : ∃ n : Nat, every = n := ⟨every.toNat, by omega⟩; obtain ⟨mn, rfl⟩ : ∃ n : Nat, most = n := ⟨most.toNat, by omega⟩; have e9 := Hlr.out.symm.trans (logR_ok (HA.out.trans hea) hev)
   obtain ⟨hL9, rfl⟩ : l = logL s fs ev mn ∧ er = 0 := by simpa using e9
   have Hl9 := hid hL9; clear hL9 e9; refine region_F ?_
   refine P3 ?_
   refine py ?_; refine listF_yes rfl rfl (by decide) ?_ (fun K' hK => ?_); (focus (go_simp; done)); unfold opF; go_simp; refine (rin12_any (ev : Int) 1 1000 _).mono ?_; rintro e w' ⟨rfl, rfl⟩; refine ⟨_, rfl, hK _ _ ?_⟩; clear hK K'; refine py ?_; refine pl ?_; refine lx [25] ?_; clear Z1 Z2 Z3 Z4 Z10; intro s8 Z1 Z2 Z3 Z4 Z10 Z25; refine ln ?_; intros
   refine cond_f ?_
   refine nr ?_; intros; refine P2 ?_; clear Z25; refine lx [27] ?_; clear Z1 Z2 Z3 Z4 Z10; intro s9 Z1 Z2 Z3 Z4 Z10 Z27; refine ln ?_; intros
   refine cond_f ?_
   refine nr ?_; intros; refine pl ?_; clear Z10 Z27; refine lx [11] ?_; clear Z1 Z2 Z3 Z4; intro s10 Z1 Z2 Z3 Z4 Z11; refine lr ?_; intros; refine P2 ?_; refine cal (rends_any ev mn _ (by have h9 := (inI_iff _ _ _).1 hev; omega) (by omega)) ?_; rintro e w11 ⟨v31, rfl, hO31, hb12⟩; obtain ⟨a12, c12, rfl, hr12, -⟩ := Own.slice (f := int1) (m := 1) (fun _ => rfl) hO31; have H12 := hid (show ∀ b, a12 = some b → b.block < w11.heap.size from fun b hb => (World.ownsRow.lt hO31 b.block (by rw [hb]; rfl)).2); have H12b := hid (show ∀ b, a12 = some b → b.block ≠ B4 from fun b hb => by have := (World.ownsRow.lt hO31 b.block (by rw [hb]; rfl)).1; omega); have Hel := hid (ends_len ev mn); have hcl := cnt_le (every := ev) (most := mn) (by have h9 := (inI_iff _ _ _).1 hev; omega); obtain ⟨cn, hcn⟩ : ∃ n, (endsL ev mn).length = n := ⟨_, rfl⟩; have Hcn := hid hcn
   have hcn1 : cn ≤ 1000 := by have := Hel.out; omega
   clear hcn hO31; refine ⟨_, rfl, ?_⟩; clear Q4; revert HB; revert Y4; refine uA hb12 ?_; clear hb12; intro Y4 Q4 HB; refine pl ?_; clear Z2 Z3; refine lx [12] ?_; clear Z1 Z4 Z11; intro s13 Z1 Z4 Z11 Z12; refine lr ?_; intros; refine pl ?_; refine lx [13] ?_; clear Z1 Z4 Z11 Z12; intro s14 Z1 Z4 Z11 Z12 Z13; refine lr ?_; intros; obtain ⟨NB, hNB⟩ : ∃ n, n = w11.heap.size := ⟨_, rfl⟩; have gNB := HB.out.gB hNB; have uNB4 := oB Q4 hNB
   have hNBw : NB ≤ w11.heap.size := by omega
   have hNBe : w11.heap.size ≤ NB := by omega
   clear hNB; refine pl ?_; refine lx [14] ?_; clear Z1 Z4 Z11 Z12 Z13; intro s15 Z1 Z4 Z11 Z12 Z13 Z14; refine ln ?_; intros
   have hc0_1 := hid Z1; have hc0_4 := hid Z4; have hc0_12 := hid Z12; refine loop_F (n := 60) (fun kJ sJ wJ => ∃ (i : Nat) (Ai : SA) (vM : Value), kJ = cn - i ∧ sJ 11 = vM ∧ sJ 13 = .int .i64 (nn ev mn i : Int) ∧ sJ 14 = .int .i64 (i : Int) ∧ sJ 1 = s15 1 ∧ sJ 4 = s15 4 ∧ sJ 12 = s15 12 ∧ OldB [B4] w11 wJ ∧ Cells wJ B4 (stC (run12 s fs (nn ev mn i)) Ai) ∧ i ≤ cn ∧ NB ≤ wJ.heap.size ∧ RdSt wJ (run12 s fs (nn ev mn i)) Ai ∧ Hid (Ai.free (run12 s fs (nn ev mn i)) B4) ∧ (Hid (∀ k, vM.ownBlock = some k → Ai.free (run12 s fs (nn ev mn i)) k)) ∧ Own Mrk.cs 3 85 NB wJ vM (logU s fs ev mn i)) ⟨0, A, (.slice none 0 0), rfl, (by first | exact Z11 | (rw [Z11]; go_num) | (rw [Z11]; rfl)), (by rw [Z13, nn_zero]; rfl), (by first | exact Z14 | (rw [Z14]; go_num) | (rw [Z14]; rfl)), rfl, rfl, rfl, OldB.refl _ _, (by rw [nn_zero]; exact Y4), Nat.zero_le _, hNBw, (by rw [nn_zero]; exact HR.out.old HB.out), hid (by rw [nn_zero]; exact HR.out.freeB (by omega)), hid (fun k hk => by simp [Value.ownBlock] at hk), Own.nil _ _ _ _ _⟩ ?_
   clear Z11 Z13 Z14; rintro kJ s16 w17 ⟨i, Ai, vM, rfl, Z11, Z13, Z14, e1, e4, e12, hb18, mb4', hil, hNBx, hRi, Hfi, HvI, hO⟩; rw [← e1] at Z1; clear e1; rw [← e4] at Z4; clear e4; rw [← e12] at Z12; clear e12; have hoJ := hb18; clear Q4; replace Y4 := mb4'; replace hr12 := Rd.oldB hr12 hb18 (fun b hb => by have := H12b.out b hb; first | (simp; done) | (simp; omega)); replace HB := mO HB hb18; clear hb18; have Q4 := Y4.1; clear mb4'; have HoJ := hid hoJ; clear hoJ; have HL19 := HoJ; clear HoJ
   refine nr ?_; intros
   refine P4 ?_
   refine lx [35] ?_; clear Z1 Z4 Z11 Z12 Z13 Z14; intro s20 Z1 Z4 Z11 Z12 Z13 Z14 Z35; refine ln ?_; intros
   refine cond_E Z35 (by decide) ?_ ?_ <;> (clear Z35; intro h35 Z35)
   ·skip
    have hi : i < (endsL ev mn).length := by simpa using h35
    have hii : (i : Int) < (endsL ev mn).length := by omega
    obtain ⟨be, oe, hae, hbe, ce⟩ := RdInts.ne hr12 hi; have Hae := hid hae; clear hae; rw [ends_at hi] at ce; rw [Hae.out] at Z12; obtain ⟨si, hsi⟩ : ∃ z, run12 s fs (nn ev mn i) = z := ⟨_, rfl⟩; obtain ⟨s2, hs2⟩ : ∃ z, run12 s fs (nn ev mn (i + 1)) = z := ⟨_, rfl⟩; rw [hsi] at hRi Y4; have Hsi := hid hsi; have Hs2 := hid hs2; have HOi := hid (show OkI si by rw [← hsi]; exact after_ok Hfo.out HOk.out); have HO2 := hid (show OkI s2 by rw [← hs2]; exact after_ok Hfo.out HOk.out); have Hf4 := hid (show Ai.free si B4 by have := Hfi.out; rwa [hsi] at this); have Hv4 := hid (show ∀ k, vM.ownBlock = some k → Ai.free si k by have := HvI.out; rwa [hsi] at this); clear hsi hs2
    refine zx ?_; intros
    refine regV 8 [fun v _ _ _ => v = .agg #[Value.slice Ai.sa si.store.length Ai.sc, Value.slice Ai.ta si.tape.length Ai.tc, .int .i64 si.taken, Value.slice Ai.pa si.printed.length Ai.pc, .int .i64 si.time, .int .i64 si.pc, .int .i64 si.done, .int .i64 si.why], fun v _ _ _ => v = .slice af fs.length cf, fun v _ _ _ => v = .int .i64 (nn ev mn i : Int), fun v _ _ _ => v = .slice (some ⟨be, oe, none⟩) (endsL ev mn).length c12, fun v _ _ _ => v = .int .i64 (i : Int), fun v _ _ _ => v = .pointer (some ⟨be, oe + i, none⟩), fun v _ _ _ => v = .int .i64 (nn ev mn (i + 1) : Int), fun v a b W => ∃ A2 : SA, v = .agg #[.slice A2.sa s2.store.length A2.sc, .slice A2.ta s2.tape.length A2.tc, .int .i64 s2.taken, .slice A2.pa s2.printed.length A2.pc, .int .i64 s2.time, .int .i64 s2.pc, .int .i64 s2.done, .int .i64 s2.why] ∧ RdSt W s2 A2 ∧ A2.free s2 B4 ∧ ∀ k, vM.ownBlock = some k → A2.free s2 k] (by kernel_rfl) (by kernel_rfl) (by kernel_rfl) (by kernel_rfl) ⟨fun _ _ _ _ _ h _ => h, fun _ _ _ _ _ h _ => h, fun _ _ _ _ _ h _ => h, fun _ _ _ _ _ h _ => h, fun _ _ _ _ _ h _ => h, fun _ _ _ _ _ h _ => h, fun _ _ _ _ _ h _ => h, fun _ _ _ _ _ ⟨A2, h1, h2, h3, h4⟩ hb => ⟨A2, h1, h2.at hb, h3, h4⟩, trivial⟩ ⟨?_, ?_, ?_, ?_, ?_, ?_, ?_, ?_, trivial⟩ ?_
    · exact XW54b
    · rintro sJ wJ hbJ hunJ hdJ
      have sv1 := (hunJ 1 (by decide) (un_of (by kernel_rfl))).trans Z1; rw [if_pos (by rfl)]; exact oV
    · exact XW54c
    · rintro sJ wJ hbJ hunJ hdJ
      have sv12 := (hunJ 12 (by decide) (un_of (by kernel_rfl))).trans Z12; rw [if_pos (by rfl)]; exact oV
    · rintro sJ wJ hbJ hunJ hdJ
      have sv14 := (hunJ 14 (by decide) (un_of (by kernel_rfl))).trans Z14; rw [if_pos (by rfl)]; exact oV
    · rintro sJ wJ hbJ hunJ hdJ
      have sv41 : sJ 41 = .slice (some ⟨be, oe, none⟩) (endsL ev mn).length c12 := (hdJ 3 (by kernel_rfl) 41 rfl).elim fun _ h => h.elim fun _ h => h.2.2
      have sv42 : sJ 42 = .int .i64 (i : Int) := (hdJ 4 (by kernel_rfl) 42 rfl).elim fun _ h => h.elim fun _ h => h.2.2
      rw [if_pos (by rfl)]; exact oV
    · rintro sJ wJ hbJ hunJ hdJ
      have sv43 : sJ 43 = .pointer (some ⟨be, oe + i, none⟩) := (hdJ 5 (by kernel_rfl) 43 rfl).elim fun _ h => h.elim fun _ h => h.2.2
      have qe := Nat.lt_of_lt_of_le hbe hbJ.size; have ce' := ((bcell hbJ).1 be (oe + i) hbe).trans ce; rw [if_pos (by rfl)]; exact oV
    · rintro sJ wJ hbJ hunJ hdJ
      have sv38 : sJ 38 = .agg #[Value.slice Ai.sa si.store.length Ai.sc, Value.slice Ai.ta si.tape.length Ai.tc, .int .i64 si.taken, Value.slice Ai.pa si.printed.length Ai.pc, .int .i64 si.time, .int .i64 si.pc, .int .i64 si.done, .int .i64 si.why] := (hdJ 0 (by kernel_rfl) 38 rfl).elim fun _ h => h.elim fun _ h => h.2.2
      have sv39 : sJ 39 = .slice af fs.length cf := (hdJ 1 (by kernel_rfl) 39 rfl).elim fun _ h => h.elim fun _ h => h.2.2
      have sv40 : sJ 40 = .int .i64 (nn ev mn i : Int) := (hdJ 2 (by kernel_rfl) 40 rfl).elim fun _ h => h.elim fun _ h => h.2.2
      have sv44 : sJ 44 = .int .i64 (nn ev mn (i + 1) : Int) := (hdJ 6 (by kernel_rfl) 44 rfl).elim fun _ h => h.elim fun _ h => h.2.2
      rw [if_pos (by rfl)]; unfold opF; go_simp; refine (rafter_nn s fs ev mn i si s2 Ai af cf _ Hsi.out Hs2.out (hRi.at hbJ) HOi.out Hfo.out hl10 (Rd.oldB HF.out (HB.out.below hbJ) (by simp)) (by omega)).mono ?_; rintro e wN ⟨A2, rfl, hR2, hk2, hbN⟩; exact ⟨_, rfl, ⟨A2, rfl, hR2, hk2 B4 (Y4.at hbJ).1 Hf4.out, fun k hk => hk2 k (Nat.lt_of_lt_of_le (World.ownsRow.lt hO k hk).2 hbJ.size) (Hv4.out k hk)⟩, hbN⟩
    intro s23 w21 aJ bJ hb22 hunJ hvJ hapJ; replace Z1 := (hunJ 1 (by decide) (un_of (by kernel_rfl))).trans Z1; replace Z4 := (hunJ 4 (by decide) (un_of (by kernel_rfl))).trans Z4; replace Z11 := (hunJ 11 (by decide) (un_of (by kernel_rfl))).trans Z11; replace Z12 := (hunJ 12 (by decide) (un_of (by kernel_rfl))).trans Z12; replace Z14 := (hunJ 14 (by decide) (un_of (by kernel_rfl))).trans Z14; clear Z13 Z35; obtain ⟨gw45, gm45, gh45, hq45⟩ := hvJ 7 (by decide); obtain ⟨A2, Z45, hR2, hf2, hv2⟩ := hq45 45 rfl; clear hq45; clear hunJ hvJ hapJ; have gS := HB.out.size; clear Q4; replace hr12 := Rd.at hr12 hb22; replace hRi := RdSt.at hRi hb22; replace hO := Own.at hO hb22; revert HB; revert HL19; revert Y4; refine uA hb22 ?_; clear hb22; intro Y4 Q4 HL19 HB; have Hf2 := hid hf2; have Hv2 := hid hv2; clear hf2 hv2 hRi; have cb4 := clx Y4; have zb4 := Y4.2.2; refine pl ?_; refine sto Y4 ?_; clear Y4 cb4 zb4; intro w24 Y4 hb25; clear Q4; replace hr12 := Rd.oldB hr12 hb25 (fun b hb => by have := H12b.out b hb; first | (simp; done) | (simp; omega)); replace hR2 := RdSt.oldK hR2 Hf2.out hb25; replace hO := Own.oldB hO hb25 (fun g hg => by have n0 := (World.ownsRow.lt hO g hg).1; first | (simp; done) | (simp; omega)); revert HL19 HB; refine zO hb25 ?_; clear hb25; intro HL19 HB; have Q4 := Y4.1; clear Z45; refine lx [] ?_; clear Z1 Z4 Z11 Z12 Z14; intro s26 Z1 Z4 Z11 Z12 Z14; refine lr ?_; intros
    refine P3 ?_
    have hr12b := hr12; rw [Hae.out] at hr12b; have ce2 := rd_at1 hr12b hi (ends_at hi); clear hr12b; refine P2 ?_; refine lx [13] ?_; clear Z1 Z4 Z11 Z12 Z14; intro s27 Z1 Z4 Z11 Z12 Z14 Z13; refine ln ?_; intros
    refine regV 8 [fun v _ _ _ => v = vM, fun v _ _ _ => v = .int .i64 (nn ev mn (i + 1) : Int), fun v _ _ _ => v = .pointer (some ⟨B4, 5, none⟩), fun v _ _ _ => v = .int .i64 s2.pc, fun v _ _ _ => v = .agg #[Value.slice A2.sa s2.store.length A2.sc, Value.slice A2.ta s2.tape.length A2.tc, .int .i64 s2.taken, Value.slice A2.pa s2.printed.length A2.pc, .int .i64 s2.time, .int .i64 s2.pc, .int .i64 s2.done, .int .i64 s2.why], fun v _ _ _ => v = .int .i64 (sealI' s2), fun v _ _ _ => v = .agg #[.int .i64 (nn ev mn (i + 1) : Int), .int .i64 s2.pc, .int .i64 (sealI' s2)], fun v a b W => ∃ B, v = .slice (some ⟨B, 0, none⟩) 1 1 ∧ a ≤ B ∧ B < b ∧ Cells W B [.int .i64 (nn ev mn (i + 1) : Int), .int .i64 s2.pc, .int .i64 (sealI' s2)]] (by kernel_rfl) (by kernel_rfl) (by kernel_rfl) (by kernel_rfl) ⟨fun _ _ _ _ _ h _ => h, fun _ _ _ _ _ h _ => h, fun _ _ _ _ _ h _ => h, fun _ _ _ _ _ h _ => h, fun _ _ _ _ _ h _ => h, fun _ _ _ _ _ h _ => h, fun _ _ _ _ _ h _ => h, fun _ _ _ _ _ ⟨B, h1, h2, h3, h4⟩ hb => ⟨B, h1, h2, h3, h4.at hb⟩, trivial⟩ ⟨?_, ?_, ?_, ?_, ?_, ?_, ?_, ?_, trivial⟩ ?_
    · rintro sJ wJ hbJ hunJ hdJ
      have sv11 := (hunJ 11 (by decide) (un_of (by kernel_rfl))).trans Z11; rw [if_pos (by rfl)]; exact oV
    · exact XW54c
    · rintro sJ wJ hbJ hunJ hdJ
      have sv4 := (hunJ 4 (by decide) (un_of (by kernel_rfl))).trans Z4; rw [if_pos (by rfl)]; exact oV
    · rintro sJ wJ hbJ hunJ hdJ
      have sv52 : sJ 52 = .pointer (some ⟨B4, 5, none⟩) := (hdJ 2 (by kernel_rfl) 52 rfl).elim fun _ h => h.elim fun _ h => h.2.2
      have kJ := Y4.at hbJ; have qJ := kJ.1; have cJ_5 := kJ.cell 5 rfl; rw [if_pos (by rfl)]; exact oV
    · exact XW54b
    · rintro sJ wJ hbJ hunJ hdJ
      have sv54 : sJ 54 = .agg #[Value.slice A2.sa s2.store.length A2.sc, Value.slice A2.ta s2.tape.length A2.tc, .int .i64 s2.taken, Value.slice A2.pa s2.printed.length A2.pc, .int .i64 s2.time, .int .i64 s2.pc, .int .i64 s2.done, .int .i64 s2.why] := (hdJ 4 (by kernel_rfl) 54 rfl).elim fun _ h => h.elim fun _ h => h.2.2
      rw [if_pos (by rfl)]; unfold opF; go_simp; refine (sealed_any s2 A2 _ (hR2.at hbJ) HO2.out).mono ?_; rintro e wN ⟨rfl, hbN⟩; exact ⟨_, rfl, rfl, hbN⟩
    · rintro sJ wJ hbJ hunJ hdJ
      have sv51 : sJ 51 = .int .i64 (nn ev mn (i + 1) : Int) := (hdJ 1 (by kernel_rfl) 51 rfl).elim fun _ h => h.elim fun _ h => h.2.2
      have sv53 : sJ 53 = .int .i64 s2.pc := (hdJ 3 (by kernel_rfl) 53 rfl).elim fun _ h => h.elim fun _ h => h.2.2
      have sv55 : sJ 55 = .int .i64 (sealI' s2) := (hdJ 5 (by kernel_rfl) 55 rfl).elim fun _ h => h.elim fun _ h => h.2.2
      rw [if_pos (by rfl)]; exact oV
    · rintro sJ wJ hbJ hunJ hdJ
      have sv56 : sJ 56 = .agg #[.int .i64 (nn ev mn (i + 1) : Int), .int .i64 s2.pc, .int .i64 (sealI' s2)] := (hdJ 6 (by kernel_rfl) 56 rfl).elim fun _ h => h.elim fun _ h => h.2.2
      rw [if_pos (by rfl)]; exact opV_slice (by intro K' hK; unfold opF; go_simp; exact hK)
    intro s30 w28 aJ bJ hb29 hunJ hvJ hapJ; replace Z1 := (hunJ 1 (by decide) (un_of (by kernel_rfl))).trans Z1; replace Z4 := (hunJ 4 (by decide) (un_of (by kernel_rfl))).trans Z4; replace Z11 := (hunJ 11 (by decide) (un_of (by kernel_rfl))).trans Z11; replace Z12 := (hunJ 12 (by decide) (un_of (by kernel_rfl))).trans Z12; replace Z13 := (hunJ 13 (by decide) (un_of (by kernel_rfl))).trans Z13; replace Z14 := (hunJ 14 (by decide) (un_of (by kernel_rfl))).trans Z14; have Z50 : s30 50 = vM := (hvJ 0 (by decide)).2.2.2 50 rfl; obtain ⟨gw57, gm57, gh57, hq57⟩ := hvJ 7 (by decide); obtain ⟨B57, Z57, gl57, gr57, Y57'⟩ := hq57 57 rfl; clear hq57; clear hunJ hvJ hapJ; have gS := HB.out.size
    have ob4_b57 : B4 < B57 := by have := Q4; omega
    have lHL19_b57 : w11.heap.size ≤ B57 := by have := HL19.out.size; omega
    have gb57 : w.heap.size ≤ B57 := by omega
    have nhO_b57 : ∀ g, vM.ownBlock = some g → g < B57 := fun g hg => by have := (World.ownsRow.lt hO g hg).2; omega
    clear Q4; replace hr12 := Rd.at hr12 hb29; replace hR2 := RdSt.at hR2 hb29; replace hO := Own.at hO hb29; revert Y4 HL19 HB; refine uA hb29 ?_; clear hb29; intro Y4 Q4 HL19 HB; have Y57 := Y57'; clear Y57'; have Q57 := Y57.1; have hul := logU_len s fs ev mn i
    have hNBz : NB ≤ w28.heap.size := by have := Y57.1; omega
    have hi9 : i < cn := by have := Hcn.out; omega
    have ab4 : vM.ownBlock ≠ some B4 := fun e => by have n0 := (World.ownsRow.lt hO B4 e).1; omega
    have ab57 : vM.ownBlock ≠ some B57 := fun e => by have n0 := (World.ownsRow.lt hO B57 e).1; have n9 := nhO_b57 B57 e; omega
    have hzz := HB.out.size; refine listF_step rfl (fun K' hK => ?_); refine opF_app (d := 58) rfl (by decide) (.tmp 50) (.tmp 57) _ rfl 85 i0 _ 24 Tryz.underlying74 hi0 hz0 hy0 hx0 rfl (by decide) (fun _ => rfl) mrk_one NB vM (logU s fs ev mn i) [⟨(nn ev mn (i + 1) : Int), s2.pc, sealI' s2⟩] (some ⟨B57, 0, none⟩) 1 (by go_simp) (by go_simp) hO (Cells.rd (f := Mrk.cs) (m := 3) (l := [⟨(nn ev mn (i + 1) : Int), s2.pc, sealI' s2⟩]) (fun _ => rfl) Y57) (by unfold maxLen; simp; omega) (by simp; omega) (by omega) (fun v58 w31 hO' hG hV => hK _ _ ?_); clear hK K' hzz; clear Q4 Q57; replace Y4 := Y4.grown hG ab4; clear ab4; replace Y57 := Y57.grown hG ab57; clear ab57; replace hr12 := Rd.grown hr12 hG (fun _ b hb e => by have n1 := (World.ownsRow.lt hO _ e).1; have n2 := H12.out b hb; omega); replace HL19 := hid (HL19.out.grown hG (fun k hk => .inl (by have := (World.ownsRow.lt hO k hk).1; omega)))
    have HvN := hid (show ∀ k, v58.ownBlock = some k → A2.free s2 k from fun k hk => by rcases hV with e | e <;> rw [e] at hk; exact Hv2.out k hk; cases hk; exact RdSt.freeB hR2 (Nat.le_refl _)); replace hR2 := hR2.grown hG Hv2.out; replace HB := hid (HB.out.grown hG (fun k hk => .inl (by have := (World.ownsRow.lt hO k hk).1; omega))); clear hO; have hO := hO'; clear hO' hG hV; clear nhO_b57; have Q4 := Y4.1; have Q57 := Y57.1; refine pl ?_; clear Z11 Z50 Z57; refine lx [11] ?_; clear Z1 Z4 Z12 Z13 Z14; intro s32 Z1 Z4 Z12 Z13 Z14 Z11; refine lr ?_; intros
    refine P3 ?_
    clear Z14; refine lx [14] ?_; clear Z1 Z4 Z11 Z12 Z13; intro s33 Z1 Z4 Z11 Z12 Z13 Z14; refine ln ?_; intros
    rw [← Hae.out] at Z12; refine ⟨_, _, rfl, ?_, i + 1, A2, _, rfl, (rL Z11), (rL Z13), (rL Z14), sh, sh, sh, HL19.out, (by rw [Hs2.out]; exact Y4), by omega, by have := Y57.1; omega, (by rw [Hs2.out]; exact hR2), hid (by rw [Hs2.out]; exact Hf2.out), hid (by rw [Hs2.out]; exact HvN.out), (by rw [logU_succ Hs2.out]; exact hO)⟩
    omega
   ·skip
    have hi : i = (endsL ev mn).length := by have h := h35; have h2 := Hcn.out; simp at h; omega
    refine zx ?_; intros
    clear HL19; clear hc0_1 hc0_4 hc0_12; refine region_F ?_
    refine P3 ?_
    clear Z1 Z4 Z11 Z12 Z13 Z14 Z35; refine lx [8,9] ?_; intro s34 Z8 Z9; refine ln ?_; intros
    refine XW54d ?_
    have e8 : logU s fs ev mn i = l := by rw [Hl9.out, hi, Hel.out]; rfl
    rw [e8] at hO; obtain ⟨a8, c8, rfl, hr8, -⟩ := Own.slice (f := Mrk.cs) (m := 3) (fun _ => rfl) hO; exact ⟨a8, c8, rfl, hr8, HB.out.toBelow⟩
  ·skip
   have e9 := Hlr.out.symm.trans (logR_bad2 (HA.out.trans hea) hev)
   obtain ⟨rfl, rfl⟩ : l = [] ∧ er = 7 := by simpa using e9
   refine region_F ?_
   refine P3 ?_
   refine py ?_; refine listF_yes rfl rfl (by decide) ?_ (fun K' hK => ?_); (focus (go_simp; done)); unfold opF; go_simp; refine (rin12_any every 1 1000 _).mono ?_; rintro e w' ⟨rfl, rfl⟩; refine ⟨_, rfl, hK _ _ ?_⟩; clear hK K'; refine py ?_; refine pl ?_; refine lx [25] ?_; clear Z1 Z2 Z3 Z4 Z10; intro s36 Z1 Z2 Z3 Z4 Z10 Z25; refine ln ?_; intros
   refine cond_t ?_
   refine nr ?_; intros; refine pl ?_; clear Z10 Z25; refine lx [10] ?_; clear Z1 Z2 Z3 Z4; intro s37 Z1 Z2 Z3 Z4 Z10; refine lr ?_; intros; refine P2 ?_; refine lx [27] ?_; clear Z1 Z2 Z3 Z4 Z10; intro s38 Z1 Z2 Z3 Z4 Z10 Z27; refine ln ?_; intros
   refine cond_t ?_
   refine nr ?_; intros
   refine P3 ?_
   clear Z1 Z2 Z3 Z4 Z10 Z27; refine lx [8,9] ?_; intro s39 Z8 Z9; refine ln ?_; intros
   refine XW54d ?_; exact ⟨none, 0, rfl, (Or.inl rfl : RdMk _ _ _), HB.out.toBelow⟩
 ·skip
  have e9 := Hlr.out.symm.trans (logR_bad HA.out hea)
  obtain ⟨rfl, rfl⟩ : l = [] ∧ er = ea := by simpa using e9
  refine region_F ?_
  refine P3 ?_
  refine F3 ?_; refine pl ?_; refine lx [25] ?_; clear Z1 Z2 Z3 Z4 Z10; intro s40 Z1 Z2 Z3 Z4 Z10 Z25; refine ln ?_; intros
  refine cond_f ?_
  refine nr ?_; intros; refine P2 ?_; clear Z25; refine lx [27] ?_; clear Z1 Z2 Z3 Z4 Z10; intro s41 Z1 Z2 Z3 Z4 Z10 Z27; refine ln ?_; intros
  refine cond_t ?_
  refine nr ?_; intros
  refine P3 ?_
  clear Z1 Z2 Z3 Z4 Z10 Z27; refine lx [8,9] ?_; intro s42 Z8 Z9; refine ln ?_; intros
  refine XW54d ?_; exact ⟨none, 0, rfl, (Or.inl rfl : RdMk _ _ _), HB.out.toBelow⟩

end Go.Proofs.YtleknidlgmmgbaaGreat
