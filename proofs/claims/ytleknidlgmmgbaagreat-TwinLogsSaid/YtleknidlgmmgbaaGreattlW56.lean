/- The reference's Half. -/
import Derived.Test.YtleknidlgmmgbaaGreattlW54
import Derived.Test.YtleknidlgmmgbaaGreattlW34
set_option linter.all false
namespace Go.Proofs.YtleknidlgmmgbaaGreat

open Go.RowKit


theorem rafter_cl (ev mn i : Nat) (si s3 : St4) (A : SA) (w : World) (h3 : after12 [] (nn ev mn i) (nn ev mn (i + 1) - nn ev mn i) si = s3) (hR : RdSt w si A) (hO : OkI si) (hm : mn ≤ 1000) :
    Calls Tryz.prog 50 #[sV si A, .slice none 0 0, .int .i64 (nn ev mn i : Int), .int .i64 (nn ev mn (i + 1) : Int)] w (fun e w' => ∃ A' : SA, e = .returned (.agg #[.slice A'.sa s3.store.length A'.sc, .slice A'.ta s3.tape.length A'.tc, .int .i64 s3.taken, .slice A'.pa s3.printed.length A'.pc, .int .i64 s3.time, .int .i64 s3.pc, .int .i64 s3.done, .int .i64 s3.why]) ∧ RdSt w' s3 A' ∧ Kept w.heap.size si A s3 A' ∧ Below w.heap.size w w') := by
  have h := rafter12_any si A none 0 [] (nn ev mn i) (nn ev mn (i + 1)) w hR hO (fun _ h => by cases h) (Nat.zero_le _) (.inl rfl) ⟨nn_mono ev mn i, Nat.le_trans (nn_le ev mn (i + 1)) hm⟩; rw [h3] at h; exact h
theorem rhU_yes {s : St4} {fs : List Flt} {ev mn i : Nat} {odd : Bool} (h1 : (decide (i % 2 = 1) == odd) = true) (h2 : difI s fs ev mn i = true) : halfU s fs ev mn odd (i + 1) = halfU s fs ev mn odd i ++ [(i : Int)] := by
  show (if ((decide (i % 2 = 1) == odd) && difI s fs ev mn i) = true then _ else _) = _
  rw [h1, h2]; rfl
theorem rhU_no {s : St4} {fs : List Flt} {ev mn i : Nat} {odd : Bool} (h : (decide (i % 2 = 1) == odd) = false ∨ difI s fs ev mn i = false) : halfU s fs ev mn odd (i + 1) = halfU s fs ev mn odd i := by
  show (if ((decide (i % 2 = 1) == odd) && difI s fs ev mn i) = true then _ else _) = _
  rw [if_neg]
  rcases h with h | h <;> rw [h] <;> simp
theorem halfU_le9 (s : St4) (fs : List Flt) (ev mn : Nat) (odd : Bool) : ∀ i, (halfU s fs ev mn odd i).length ≤ i
  | 0 => by simp [halfU]
  | i + 1 => by
    have := halfU_le9 s fs ev mn odd i; unfold halfU; split
    · rw [List.length_append, List.length_singleton]; omega
    · omega
theorem dif_in {s : St4} {fs : List Flt} {ev mn i : Nat} {si s2 s3 : St4} (he : 1 ≤ ev) (hi : i < cntN ev mn) (h1 : run12 s fs (nn ev mn i) = si) (h2 : run12 s fs (nn ev mn (i + 1)) = s2) (h3 : after12 [] (nn ev mn i) (nn ev mn (i + 1) - nn ev mn i) si = s3) : difI s fs ev mn i = decide (s2 ≠ s3) := by
  rw [← h2, ← h3, ← h1]; unfold difI; rw [nn_lt_cnt he hi]; rfl

theorem XW56b {A : Prop} (e : A := by
 rintro sJ wJ hbJ hunJ hdJ
 have sv5 := (hunJ 5 (by decide) (un_of (by kernel_rfl))).trans Z5; have kJ := Y5.at hbJ; have qJ := kJ.1; have cJ := clx kJ; rw [if_pos (by rfl)]; exact oV) : A := e
theorem XW56c {A : Prop} (e : A := by
 rintro sJ wJ hbJ hunJ hdJ
 have sv15 := (hunJ 15 (by decide) (un_of (by kernel_rfl))).trans Z15; rw [if_pos (by rfl)]; exact oV) : A := e
theorem XW56d {A : Prop} (e : A := by
 rintro sJ wJ hbJ hunJ hdJ
 have sv14 := (hunJ 14 (by decide) (un_of (by kernel_rfl))).trans Z14; rw [if_pos (by rfl)]; exact oV) : A := e
theorem XW56e {A : Prop} (e : A := by
 rintro sJ wJ hbJ hunJ hdJ
 have sv16 := (hunJ 16 (by decide) (un_of (by kernel_rfl))).trans Z16; rw [if_pos (by rfl)]; exact oV) : A := e
theorem XW56f {A : Prop} (e : A := by
 rintro sJ wJ hbJ hunJ hdJ
 rw [if_pos (by rfl)]; exact opV_alloc (by intro K' hK; unfold opF; go_simp; exact hK)) : A := e
theorem XW56g {A : Prop} (e : A := by
 rw [show X 7 = B5 from hX.at0 0 _ rfl] at hkq ⊢
 replace hkq : Cells wq B5 [Value.slice Ai.sa si.store.length Ai.sc, Value.slice Ai.ta si.tape.length Ai.tc, .int .i64 si.taken, Value.slice Ai.pa si.printed.length Ai.pc, .int .i64 si.time, .int .i64 si.pc, .int .i64 si.done, .int .i64 si.why] := hkq; have hks := hkq.1; have hkz := hkq.2.2; have hk0 := hkq.cell 0 rfl; have hk1 := hkq.cell 1 rfl; have hk2 := hkq.cell 2 rfl; have hk3 := hkq.cell 3 rfl; have hk4 := hkq.cell 4 rfl; have hk5 := hkq.cell 5 rfl; have hk6 := hkq.cell 6 rfl; have hk7 := hkq.cell 7 rfl; go_simp
 (first | ((with_reducible refine writeB_mk (Cells.set (Cells.set (Cells.set (Cells.set (Cells.set (Cells.set (Cells.set (Cells.set hkq)))))))) ?_ ?_); (focus (repeat (first | (with_reducible exact Only.refl _ _) | (with_reducible refine Only.set ?_)))); rfl))) : A := e
theorem XW56h {A : Prop} (e : A := by exact (fun b hb => by have n1 := H12b.out b hb; have n2 := H12.out b hb; first | (simp; done) | (simp; omega))) : A := e
theorem XW56i {A : Prop} (e : A := by exact (fun g hg => by have n0 := (World.ownsRow.lt hO g hg).1; have nb17 := nhO_b17 g hg; have nb18 := nhO_b18 g hg; first | (simp; done) | (simp; omega))) : A := e
theorem XW56j {A : Prop} (e : A := by first | exact Hf2.out | exact Hf17.out | exact Hf18.out) : A := e
theorem XW56k {A : Prop} (e : A := by first | exact Hf3_5.out | exact Hf3_17.out | exact Hf3_18.out) : A := e
theorem XW56l {A : Prop} (e : A := by first | exact List.nodup_nil | exact List.nodup_singleton _ | (simp; done) | (simp; omega)) : A := e
theorem XW56m {A B1 : Prop} (hX1 : B1) (e : B1 → A := by exact ret_F _ (res_tt Tryz.results42 ((getD_F (by decide)).trans Z10) ((getD_F (by decide)).trans Z11))) : A := e hX1
set_option maxRecDepth 100000 in
set_option maxHeartbeats 16000000 in
theorem rHalf_v (s : St4) (A : SA) (af : Option Addr) (cf : Nat) (fs : List Flt) (every most er : Int) (odd : Bool) (l : List Int) (w : World) (hR : RdSt w s A) (hL : LenI s) (hlf : fs.length ≤ 9223372036854775807) (hF : RdFl w af fs) (hlr : halfR s fs every most odd = (l, er)) :
    Calls Tryz.prog 42 #[sV s A, .slice af fs.length cf, .int .i64 every, .int .i64 most, .bool odd] w (fun e w' => ∃ a c, e = .returned (.tuple #[.slice a l.length c, .int .i64 er]) ∧ RdInts w' a l ∧ Below w.heap.size w w') := by
 have HR := hid hR; have HL := hid hL; have HF := hid hF; have Hlr := hid hlr; clear hR hL hF hlr; obtain ⟨ea, hA⟩ : ∃ x, askErr12 s fs most = x := ⟨_, rfl⟩; have HA := hid hA; clear hA; obtain ⟨i0, hi0, hz0, hy0, hx0⟩ := info_parts info_int
 refine enter_F Tryz.func42 rfl Tryz.ntmps42 (by simp) ?_
 intro s0 hs; have Z0 : s0 0 = .agg #[.slice A.sa s.store.length A.sc, .slice A.ta s.tape.length A.tc, .int .i64 s.taken, .slice A.pa s.printed.length A.pc, .int .i64 s.time, .int .i64 s.pc, .int .i64 s.done, .int .i64 s.why] := hs 0 (by simp); have Z1 : s0 1 = .slice af fs.length cf := hs 1 (by simp); have Z2 : s0 2 = .int .i64 every := hs 2 (by simp); have Z3 : s0 3 = .int .i64 most := hs 3 (by simp); have Z4 : s0 4 = .bool odd := hs 4 (by simp); clear hs; have HB := hid (OldB.refl [] w)
 refine nr ?_; intros; refine pa (fun w1 B5 hB Y5 hb2 => ?_); have gb5 := HB.out.gB hB; have eb5 := eB hB; clear hB; replace HB := bE HB hb2; clear hb2; have Q5 := Y5.1; refine P2 ?_; clear Z0; refine lx [5] ?_; clear Z1 Z2 Z3 Z4; intro s3 Z1 Z2 Z3 Z4 Z5; refine lr ?_; intros; have cb5 := clx Y5
 refine P3 ?_
 refine cal (rasked_v s A af cf fs most ea _ (HR.out.old HB.out) HL.out (Rd.oldB HF.out HB.out (by simp)) hlf HA.out) ?_; rintro e w4 ⟨rfl, hb5⟩; refine ⟨_, rfl, ?_⟩; clear cb5; clear Q5; revert Y5 HB; refine uA hb5 ?_; clear hb5; intro Y5 Q5 HB; refine pl ?_; refine lx [12] ?_; clear Z1 Z2 Z3 Z4 Z5; intro s6 Z1 Z2 Z3 Z4 Z5 Z12; refine ln ?_; intros
 by_cases hea : ea = 0
 ·skip
  have h9 := ask12_zero.1 (HA.out.trans hea); obtain ⟨hOk, hl10, hfo, hm0, hm1⟩ := h9; have HOk := hid hOk; have Hfo := hid hfo; clear hOk hfo
  rcases Bool.eq_false_or_eq_true (inI every 1 1000) with hev | hev
  ·skip
   have h9 := (inI_iff _ _ _).1 hev; obtain ⟨ev, rfl⟩ : ∃ n : Nat, every = n := ⟨every.toNat, by omega⟩; obtain ⟨mn, rfl⟩ : ∃ n : Nat, most = n := ⟨most.toNat, by omega⟩; have e9 := Hlr.out.symm.trans (halfR_ok (HA.out.trans hea) hev)
   obtain ⟨hL9, rfl⟩ : l = halfL s fs ev mn odd ∧ er = 0 := by simpa using e9
   have Hl9 := hid hL9; clear hL9 e9; refine region_F ?_
   refine P3 ?_
   refine py ?_; refine listF_yes rfl rfl (by decide) ?_ (fun K' hK => ?_); (focus (go_simp; done)); unfold opF; go_simp; refine (rin12_any (ev : Int) 1 1000 _).mono ?_; rintro e w' ⟨rfl, rfl⟩; refine ⟨_, rfl, hK _ _ ?_⟩; clear hK K'; refine py ?_; refine pl ?_; refine lx [29] ?_; clear Z1 Z2 Z3 Z4 Z5 Z12; intro s8 Z1 Z2 Z3 Z4 Z5 Z12 Z29; refine ln ?_; intros
   refine cond_f ?_
   refine nr ?_; intros; refine P2 ?_; clear Z29; refine lx [31] ?_; clear Z1 Z2 Z3 Z4 Z5 Z12; intro s9 Z1 Z2 Z3 Z4 Z5 Z12 Z31; refine ln ?_; intros
   refine cond_f ?_
   refine nr ?_; intros; refine pl ?_; clear Z12 Z31; refine lx [13] ?_; clear Z1 Z2 Z3 Z4 Z5; intro s10 Z1 Z2 Z3 Z4 Z5 Z13; refine lr ?_; intros; refine P2 ?_; refine cal (rends_any ev mn _ (by have h9 := (inI_iff _ _ _).1 hev; omega) (by omega)) ?_; rintro e w11 ⟨v31, rfl, hO31, hb12⟩; obtain ⟨a12, c12, rfl, hr12, -⟩ := Own.slice (f := int1) (m := 1) (fun _ => rfl) hO31; have H12 := hid (show ∀ b, a12 = some b → b.block < w11.heap.size from fun b hb => (World.ownsRow.lt hO31 b.block (by rw [hb]; rfl)).2); have H12b := hid (show ∀ b, a12 = some b → b.block ≠ B5 from fun b hb => by have := (World.ownsRow.lt hO31 b.block (by rw [hb]; rfl)).1; omega); have Hel := hid (ends_len ev mn)
   have hev1 : 1 ≤ ev := by have h9 := (inI_iff _ _ _).1 hev; omega
   have hcl := cnt_le (every := ev) (most := mn) hev1; obtain ⟨cn, hcn⟩ : ∃ n, (endsL ev mn).length = n := ⟨_, rfl⟩; have Hcn := hid hcn
   have hcn1 : cn ≤ 1000 := by have := Hel.out; omega
   clear hcn hO31; refine ⟨_, rfl, ?_⟩; clear Q5; revert HB; revert Y5; refine uA hb12 ?_; clear hb12; intro Y5 Q5 HB; refine pl ?_; clear Z2 Z3; refine lx [14] ?_; clear Z1 Z4 Z5 Z13; intro s13 Z1 Z4 Z5 Z13 Z14; refine lr ?_; intros; refine pl ?_; refine lx [15] ?_; clear Z1 Z4 Z5 Z13 Z14; intro s14 Z1 Z4 Z5 Z13 Z14 Z15; refine lr ?_; intros; obtain ⟨NB, hNB⟩ : ∃ n, n = w11.heap.size := ⟨_, rfl⟩; have gNB := HB.out.gB hNB; have uNB4 := oB Q5 hNB
   have hNBw : NB ≤ w11.heap.size := by omega
   have hNBe : w11.heap.size ≤ NB := by omega
   clear hNB; refine pl ?_; refine lx [16] ?_; clear Z1 Z4 Z5 Z13 Z14 Z15; intro s15 Z1 Z4 Z5 Z13 Z14 Z15 Z16; refine ln ?_; intros
   have hc0_1 := hid Z1; have hc0_4 := hid Z4; have hc0_5 := hid Z5; have hc0_14 := hid Z14; refine loop_F (n := 78) (fun kJ sJ wJ => ∃ (i : Nat) (Ai : SA) (vM : Value), kJ = cn - i ∧ sJ 13 = vM ∧ sJ 15 = .int .i64 (nn ev mn i : Int) ∧ sJ 16 = .int .i64 (i : Int) ∧ sJ 1 = s15 1 ∧ sJ 4 = s15 4 ∧ sJ 5 = s15 5 ∧ sJ 14 = s15 14 ∧ OldB [B5] w11 wJ ∧ Cells wJ B5 (stC (run12 s fs (nn ev mn i)) Ai) ∧ i ≤ cn ∧ NB ≤ wJ.heap.size ∧ RdSt wJ (run12 s fs (nn ev mn i)) Ai ∧ Hid (Ai.free (run12 s fs (nn ev mn i)) B5) ∧ (Hid (∀ k, vM.ownBlock = some k → Ai.free (run12 s fs (nn ev mn i)) k)) ∧ Own int1 1 3 NB wJ vM (halfU s fs ev mn odd i)) ⟨0, A, (.slice none 0 0), rfl, (by first | exact Z13 | (rw [Z13]; go_num) | (rw [Z13]; rfl)), (by rw [Z15, nn_zero]; rfl), (by first | exact Z16 | (rw [Z16]; go_num) | (rw [Z16]; rfl)), rfl, rfl, rfl, rfl, OldB.refl _ _, (by rw [nn_zero]; exact Y5), Nat.zero_le _, hNBw, (by rw [nn_zero]; exact HR.out.old HB.out), hid (by rw [nn_zero]; exact HR.out.freeB (by omega)), hid (fun k hk => by simp [Value.ownBlock] at hk), Own.nil _ _ _ _ _⟩ ?_
   clear Z13 Z15 Z16; rintro kJ s16 w17 ⟨i, Ai, vM, rfl, Z13, Z15, Z16, e1, e4, e5, e14, hb18, mb5', hil, hNBx, hRi, Hfi, HvI, hO⟩; rw [← e1] at Z1; clear e1; rw [← e4] at Z4; clear e4; rw [← e5] at Z5; clear e5; rw [← e14] at Z14; clear e14; have hoJ := hb18; clear Q5; replace Y5 := mb5'; replace hr12 := Rd.oldB hr12 hb18 XW56h; replace HB := mO HB hb18; clear hb18; have Q5 := Y5.1; clear mb5'; have HoJ := hid hoJ; clear hoJ; have HL19 := HoJ; clear HoJ
   refine nr ?_; intros
   refine P4 ?_
   refine lx [39] ?_; clear Z1 Z4 Z5 Z13 Z14 Z15 Z16; intro s20 Z1 Z4 Z5 Z13 Z14 Z15 Z16 Z39; refine ln ?_; intros
   refine cond_E Z39 (by decide) ?_ ?_ <;> (clear Z39; intro h39 Z39)
   ·skip
    have hi : i < (endsL ev mn).length := by simpa using h39
    have hii : (i : Int) < (endsL ev mn).length := by omega
    obtain ⟨ZH, hZH⟩ : ∃ n, n = w17.heap.size := ⟨_, rfl⟩
    have hZ1 : ZH ≤ w17.heap.size := by omega
    have hZ2 : w17.heap.size ≤ ZH := by omega
    clear hZH
    have hi9 : i < cn := by have := Hcn.out; omega
    have hicn : i < cntN ev mn := by have := Hel.out; omega
    obtain ⟨be, oe, hae, hbe, ce⟩ := RdInts.ne hr12 hi; have Hae := hid hae; clear hae; rw [ends_at hi] at ce; rw [Hae.out] at Z14; have hbe5 : be ≠ B5 := H12b.out _ Hae.out; obtain ⟨si, hsi⟩ : ∃ z, run12 s fs (nn ev mn i) = z := ⟨_, rfl⟩; obtain ⟨s2, hs2⟩ : ∃ z, run12 s fs (nn ev mn (i + 1)) = z := ⟨_, rfl⟩; obtain ⟨s3, hs3⟩ : ∃ z, after12 [] (nn ev mn i) (nn ev mn (i + 1) - nn ev mn i) si = z := ⟨_, rfl⟩; rw [hsi] at hRi Y5; have Hsi := hid hsi; have Hs2 := hid hs2; have Hs3 := hid hs3; have HOi := hid (show OkI si by rw [← hsi]; exact after_ok Hfo.out HOk.out); have HO2 := hid (show OkI s2 by rw [← hs2]; exact after_ok Hfo.out HOk.out); have HO3 := hid (show OkI s3 by rw [← hs3]; exact after_ok (fun _ h => by cases h) HOi.out); have Hdf := hid (dif_in hev1 hicn hsi hs2 hs3); have Hf4 := hid (show Ai.free si B5 by have := Hfi.out; rwa [hsi] at this); have Hv4 := hid (show ∀ k, vM.ownBlock = some k → Ai.free si k by have := HvI.out; rwa [hsi] at this)
    clear hsi hs2 hs3
    refine zx ?_; intros
    refine regV 17 [fun v _ _ _ => v = .agg #[Value.slice Ai.sa si.store.length Ai.sc, Value.slice Ai.ta si.tape.length Ai.tc, .int .i64 si.taken, Value.slice Ai.pa si.printed.length Ai.pc, .int .i64 si.time, .int .i64 si.pc, .int .i64 si.done, .int .i64 si.why], fun v _ _ _ => v = .slice af fs.length cf, fun v _ _ _ => v = .int .i64 (nn ev mn i : Int), fun v _ _ _ => v = .slice (some ⟨be, oe, none⟩) (endsL ev mn).length c12, fun v _ _ _ => v = .int .i64 (i : Int), fun v _ _ _ => v = .pointer (some ⟨be, oe + i, none⟩), fun v _ _ _ => v = .int .i64 (nn ev mn (i + 1) : Int), fun v a b W => ∃ A2 : SA, v = .agg #[.slice A2.sa s2.store.length A2.sc, .slice A2.ta s2.tape.length A2.tc, .int .i64 s2.taken, .slice A2.pa s2.printed.length A2.pc, .int .i64 s2.time, .int .i64 s2.pc, .int .i64 s2.done, .int .i64 s2.why] ∧ RdSt W s2 A2 ∧ A2.free s2 B5 ∧ (∀ k, vM.ownBlock = some k → A2.free s2 k) ∧ ∀ k, (ZH ≤ k ∧ k < a) ∨ b ≤ k → A2.free s2 k, fun v _ _ _ => v = .agg #[Value.slice Ai.sa si.store.length Ai.sc, Value.slice Ai.ta si.tape.length Ai.tc, .int .i64 si.taken, Value.slice Ai.pa si.printed.length Ai.pc, .int .i64 si.time, .int .i64 si.pc, .int .i64 si.done, .int .i64 si.why], fun v _ _ _ => v = .int .i64 (nn ev mn i : Int), fun v _ _ _ => v = .slice (some ⟨be, oe, none⟩) (endsL ev mn).length c12, fun v _ _ _ => v = .int .i64 (i : Int), fun v _ _ _ => v = .pointer (some ⟨be, oe + i, none⟩), fun v _ _ _ => v = .int .i64 (nn ev mn (i + 1) : Int), fun v a b W => ∃ A3 : SA, v = .agg #[.slice A3.sa s3.store.length A3.sc, .slice A3.ta s3.tape.length A3.tc, .int .i64 s3.taken, .slice A3.pa s3.printed.length A3.pc, .int .i64 s3.time, .int .i64 s3.pc, .int .i64 s3.done, .int .i64 s3.why] ∧ RdSt W s3 A3 ∧ A3.free s3 B5 ∧ (∀ k, vM.ownBlock = some k → A3.free s3 k) ∧ ∀ k, (ZH ≤ k ∧ k < a) ∨ b ≤ k → A3.free s3 k, fun v a b W => ∃ B, v = .pointer (some ⟨B, 0, none⟩) ∧ a ≤ B ∧ B < b ∧ Cells W B [Value.slice none 0 0, .slice none 0 0, .int .i64 0, .slice none 0 0, .int .i64 0, .int .i64 0, .int .i64 0, .int .i64 0], fun v a b W => ∃ B, v = .pointer (some ⟨B, 0, none⟩) ∧ a ≤ B ∧ B < b ∧ Cells W B [Value.slice none 0 0, .slice none 0 0, .int .i64 0, .slice none 0 0, .int .i64 0, .int .i64 0, .int .i64 0, .int .i64 0]] (by kernel_rfl) (by kernel_rfl) (by kernel_rfl) (by kernel_rfl) ⟨fun _ _ _ _ _ h _ => h, fun _ _ _ _ _ h _ => h, fun _ _ _ _ _ h _ => h, fun _ _ _ _ _ h _ => h, fun _ _ _ _ _ h _ => h, fun _ _ _ _ _ h _ => h, fun _ _ _ _ _ h _ => h, fun _ _ _ _ _ ⟨A2, h1, h2, h3, h4, h5⟩ hb => ⟨A2, h1, h2.at hb, h3, h4, h5⟩, fun _ _ _ _ _ h _ => h, fun _ _ _ _ _ h _ => h, fun _ _ _ _ _ h _ => h, fun _ _ _ _ _ h _ => h, fun _ _ _ _ _ h _ => h, fun _ _ _ _ _ h _ => h, fun _ _ _ _ _ ⟨A2, h1, h2, h3, h4, h5⟩ hb => ⟨A2, h1, h2.at hb, h3, h4, h5⟩, fun _ _ _ _ _ ⟨B, h1, h2, h3, h4⟩ hb => ⟨B, h1, h2, h3, h4.at hb⟩, fun _ _ _ _ _ ⟨B, h1, h2, h3, h4⟩ hb => ⟨B, h1, h2, h3, h4.at hb⟩, trivial⟩ ⟨?_, ?_, ?_, ?_, ?_, ?_, ?_, ?_, ?_, ?_, ?_, ?_, ?_, ?_, ?_, ?_, ?_, trivial⟩ ?_
    · exact XW56b
    · rintro sJ wJ hbJ hunJ hdJ
      have sv1 := (hunJ 1 (by decide) (un_of (by kernel_rfl))).trans Z1; rw [if_pos (by rfl)]; exact oV
    · exact XW56c
    · exact XW56d
    · exact XW56e
    · rintro sJ wJ hbJ hunJ hdJ
      have sv45 : sJ 45 = .slice (some ⟨be, oe, none⟩) (endsL ev mn).length c12 := (hdJ 3 (by kernel_rfl) 45 rfl).elim fun _ h => h.elim fun _ h => h.2.2
      have sv46 : sJ 46 = .int .i64 (i : Int) := (hdJ 4 (by kernel_rfl) 46 rfl).elim fun _ h => h.elim fun _ h => h.2.2
      rw [if_pos (by rfl)]; exact oV
    · rintro sJ wJ hbJ hunJ hdJ
      have sv47 : sJ 47 = .pointer (some ⟨be, oe + i, none⟩) := (hdJ 5 (by kernel_rfl) 47 rfl).elim fun _ h => h.elim fun _ h => h.2.2
      have qe := Nat.lt_of_lt_of_le hbe hbJ.size; have ce' := ((bcell hbJ).1 be (oe + i) hbe).trans ce; rw [if_pos (by rfl)]; exact oV
    · rintro sJ wJ hbJ hunJ hdJ
      have sv42 : sJ 42 = .agg #[Value.slice Ai.sa si.store.length Ai.sc, Value.slice Ai.ta si.tape.length Ai.tc, .int .i64 si.taken, Value.slice Ai.pa si.printed.length Ai.pc, .int .i64 si.time, .int .i64 si.pc, .int .i64 si.done, .int .i64 si.why] := (hdJ 0 (by kernel_rfl) 42 rfl).elim fun _ h => h.elim fun _ h => h.2.2
      have sv43 : sJ 43 = .slice af fs.length cf := (hdJ 1 (by kernel_rfl) 43 rfl).elim fun _ h => h.elim fun _ h => h.2.2
      have sv44 : sJ 44 = .int .i64 (nn ev mn i : Int) := (hdJ 2 (by kernel_rfl) 44 rfl).elim fun _ h => h.elim fun _ h => h.2.2
      have sv48 : sJ 48 = .int .i64 (nn ev mn (i + 1) : Int) := (hdJ 6 (by kernel_rfl) 48 rfl).elim fun _ h => h.elim fun _ h => h.2.2
      rw [if_pos (by rfl)]; unfold opF; go_simp; refine (rafter_nn s fs ev mn i si s2 Ai af cf _ Hsi.out Hs2.out (hRi.at hbJ) HOi.out Hfo.out hl10 (Rd.oldB HF.out (HB.out.below hbJ) (by simp)) (by omega)).mono ?_; rintro e wN ⟨A2, rfl, hR2, hk2, hbN⟩; exact ⟨_, rfl, ⟨A2, rfl, hR2, hk2 B5 (Y5.at hbJ).1 Hf4.out, fun k hk => hk2 k (Nat.lt_of_lt_of_le (World.ownsRow.lt hO k hk).2 hbJ.size) (Hv4.out k hk), fun k hk => by rcases hk with ⟨g1, g2⟩ | g1; exact hk2 k g2 (hRi.freeB (by omega)); exact RdSt.freeB hR2 g1⟩, hbN⟩
    · exact XW56b
    · exact XW56c
    · exact XW56d
    · exact XW56e
    · rintro sJ wJ hbJ hunJ hdJ
      have sv52 : sJ 52 = .slice (some ⟨be, oe, none⟩) (endsL ev mn).length c12 := (hdJ 10 (by kernel_rfl) 52 rfl).elim fun _ h => h.elim fun _ h => h.2.2
      have sv53 : sJ 53 = .int .i64 (i : Int) := (hdJ 11 (by kernel_rfl) 53 rfl).elim fun _ h => h.elim fun _ h => h.2.2
      rw [if_pos (by rfl)]; exact oV
    · rintro sJ wJ hbJ hunJ hdJ
      have sv54 : sJ 54 = .pointer (some ⟨be, oe + i, none⟩) := (hdJ 12 (by kernel_rfl) 54 rfl).elim fun _ h => h.elim fun _ h => h.2.2
      have qe := Nat.lt_of_lt_of_le hbe hbJ.size; have ce' := ((bcell hbJ).1 be (oe + i) hbe).trans ce; rw [if_pos (by rfl)]; exact oV
    · rintro sJ wJ hbJ hunJ hdJ
      have sv50 : sJ 50 = .agg #[Value.slice Ai.sa si.store.length Ai.sc, Value.slice Ai.ta si.tape.length Ai.tc, .int .i64 si.taken, Value.slice Ai.pa si.printed.length Ai.pc, .int .i64 si.time, .int .i64 si.pc, .int .i64 si.done, .int .i64 si.why] := (hdJ 8 (by kernel_rfl) 50 rfl).elim fun _ h => h.elim fun _ h => h.2.2
      have sv51 : sJ 51 = .int .i64 (nn ev mn i : Int) := (hdJ 9 (by kernel_rfl) 51 rfl).elim fun _ h => h.elim fun _ h => h.2.2
      have sv55 : sJ 55 = .int .i64 (nn ev mn (i + 1) : Int) := (hdJ 13 (by kernel_rfl) 55 rfl).elim fun _ h => h.elim fun _ h => h.2.2
      rw [if_pos (by rfl)]; unfold opF; go_simp; refine (rafter_cl ev mn i si s3 Ai _ Hs3.out (hRi.at hbJ) HOi.out (by omega)).mono ?_; rintro e wN ⟨A3, rfl, hR2, hk2, hbN⟩; exact ⟨_, rfl, ⟨A3, rfl, hR2, hk2 B5 (Y5.at hbJ).1 Hf4.out, fun k hk => hk2 k (Nat.lt_of_lt_of_le (World.ownsRow.lt hO k hk).2 hbJ.size) (Hv4.out k hk), fun k hk => by rcases hk with ⟨g1, g2⟩ | g1; exact hk2 k g2 (hRi.freeB (by omega)); exact RdSt.freeB hR2 g1⟩, hbN⟩
    · exact XW56f
    · exact XW56f
    intro s23 w21 aJ bJ hb22 hunJ hvJ hapJ; replace Z1 := (hunJ 1 (by decide) (un_of (by kernel_rfl))).trans Z1; replace Z4 := (hunJ 4 (by decide) (un_of (by kernel_rfl))).trans Z4; replace Z5 := (hunJ 5 (by decide) (un_of (by kernel_rfl))).trans Z5; replace Z13 := (hunJ 13 (by decide) (un_of (by kernel_rfl))).trans Z13; replace Z14 := (hunJ 14 (by decide) (un_of (by kernel_rfl))).trans Z14; replace Z16 := (hunJ 16 (by decide) (un_of (by kernel_rfl))).trans Z16; clear Z15 Z39; obtain ⟨gw49, gm49, gh49, hq49⟩ := hvJ 7 (by decide); obtain ⟨A2, Z49, hR_A2, hf_A2, hv_A2, hz_A2⟩ := hq49 49 rfl; clear hq49; obtain ⟨gw56, gm56, gh56, hq56⟩ := hvJ 14 (by decide); obtain ⟨A3, Z56, hR_A3, hf_A3, hv_A3, hz_A3⟩ := hq56 56 rfl; clear hq56; obtain ⟨gw17, gm17, gh17, hq17⟩ := hvJ 15 (by decide); obtain ⟨B17, Z17, gl17, gr17, Y17'⟩ := hq17 17 rfl; clear hq17; obtain ⟨gw18, gm18, gh18, hq18⟩ := hvJ 16 (by decide); obtain ⟨B18, Z18, gl18, gr18, Y18'⟩ := hq18 18 rfl
    clear hq18; have ap49_56 := hapJ 7 14 (by decide) (by decide) (by decide); have ap49_17 := hapJ 7 15 (by decide) (by decide) (by decide); have ap49_18 := hapJ 7 16 (by decide) (by decide) (by decide); have ap56_17 := hapJ 14 15 (by decide) (by decide) (by decide); have ap56_18 := hapJ 14 16 (by decide) (by decide) (by decide); have ap17_18 := hapJ 15 16 (by decide) (by decide) (by decide); clear hunJ hvJ hapJ; have gS := HB.out.size
    have ob5_b17 : B5 < B17 := by have := Q5; omega
    have lHL19_b17 : w11.heap.size ≤ B17 := by have := HL19.out.size; omega
    have gb17 : w.heap.size ≤ B17 := by omega
    have nhO_b17 : ∀ g, vM.ownBlock = some g → g < B17 := fun g hg => by have := (World.ownsRow.lt hO g hg).2; omega
    have ob5_b18 : B5 < B18 := by have := Q5; omega
    have lHL19_b18 : w11.heap.size ≤ B18 := by have := HL19.out.size; omega
    have gb18 : w.heap.size ≤ B18 := by omega
    have nhO_b18 : ∀ g, vM.ownBlock = some g → g < B18 := fun g hg => by have := (World.ownsRow.lt hO g hg).2; omega
    have ob17_b18 : B17 ≠ B18 := by omega
    have HB7 := hid (show A2.free s2 B17 ∧ A2.free s2 B18 ∧ A3.free s3 B17 ∧ A3.free s3 B18 from ⟨hz_A2 _ (by omega), hz_A2 _ (by omega), hz_A3 _ (by omega), hz_A3 _ (by omega)⟩); clear hz_A2 hz_A3; clear Q5; replace hr12 := Rd.at hr12 hb22; replace hRi := RdSt.at hRi hb22; replace hO := Own.at hO hb22; revert HB; revert HL19; revert Y5; refine uA hb22 ?_; clear hb22; intro Y5 Q5 HL19 HB; have Y17 := Y17'; clear Y17'; have Q17 := Y17.1; have Y18 := Y18'; clear Y18'; have Q18 := Y18.1; have Hf2 := hid hf_A2; have Hv2 := hid hv_A2; have Hf17 := hid HB7.out.1; have Hf18 := hid HB7.out.2.1; have Hf3_17 := hid HB7.out.2.2.1; have Hf3_18 := hid HB7.out.2.2.2; have Hf3_5 := hid hf_A3; clear hf_A2 hv_A2 hf_A3 hv_A3 hRi; have cb17 := clx Y17; have zb17 := Y17.2.2; refine pl ?_; refine sto Y17 ?_; clear Y17 cb17 zb17; intro w24 Y17 hb25; clear Q5 Q17 Q18; replace hr12 := Rd.oldB hr12 hb25 XW56h; replace hR_A2 := RdSt.oldK hR_A2 XW56j hb25; replace hR_A3 := RdSt.oldK hR_A3 XW56k hb25; replace hO := Own.oldB hO hb25 XW56i; revert Y5 HL19 HB Y18; refine uO hb25 ?_; clear hb25; intro Y5 Q5 HL19 HB Y18 Q18; have Q17 := Y17.1; have cb18 := clx Y18; have zb18 := Y18.2.2; refine pl ?_; refine sto Y18 ?_; clear Y18 cb18 zb18; intro w26 Y18 hb27; clear Q5 Q17 Q18; replace hr12 := Rd.oldB hr12 hb27 XW56h; replace hR_A2 := RdSt.oldK hR_A2 XW56j hb27; replace hR_A3 := RdSt.oldK hR_A3 XW56k hb27; replace hO := Own.oldB hO hb27 XW56i; revert Y17 Y5 HL19 HB; refine uO hb27 ?_; clear hb27; intro Y17 Q17 Y5 Q5 HL19 HB; have Q18 := Y18.1; clear Z49 Z56; refine lx [] ?_; clear Z1 Z4 Z5 Z13 Z14 Z16 Z17 Z18; intro s28 Z1 Z4 Z5 Z13 Z14 Z16 Z17 Z18; refine lr ?_; intros
    refine P6 ?_
    refine lx [62] ?_; clear Z1 Z4 Z5 Z13 Z14 Z16 Z17 Z18; intro s29 Z1 Z4 Z5 Z13 Z14 Z16 Z17 Z18 Z62
    refine boolG Z62 (fun Z62' h62 => ?_) (fun Z62' h62 => ?_) <;> (clear Z62; have Z62 := Z62'; clear Z62')
    ·skip
     have hodd : (decide (i % 2 = 1) == odd) = true := by rw [← par_eq]; simpa using h62
     have cb17 := clx Y17; refine py ?_; have cb18 := clx Y18; refine py ?_; refine listF_yes rfl rfl (by decide) ?_ (fun K' hK => ?_); (focus (go_simp; done)); unfold opF; go_simp; refine (rstates_any s2 A2 s3 A3 _ hR_A2 hR_A3 HO2.out.len HO3.out.len).mono ?_; rintro e w30 ⟨rfl, hb31⟩; refine ⟨_, rfl, hK _ _ ?_⟩; clear hK K'; clear cb17 cb18; clear Q5 Q17 Q18; replace hr12 := Rd.at hr12 hb31; replace hR_A2 := RdSt.at hR_A2 hb31; replace hR_A3 := RdSt.at hR_A3 hb31; replace hO := Own.at hO hb31; revert Y18 Y17 Y5 HL19 HB; refine uA hb31 ?_; clear hb31; intro Y18 Q18 Y17 Q17 Y5 Q5 HL19 HB; refine py ?_; refine pl ?_; clear Z18 Z62; refine lx [63,64,65,66,67] ?_; clear Z1 Z4 Z5 Z13 Z14 Z16 Z17; intro s32 Z1 Z4 Z5 Z13 Z14 Z16 Z17 Z63 Z64 Z65 Z66 Z67; refine ln ?_; intros
     refine cond_E Z67 (by decide) ?_ ?_ <;> (clear Z67; intro h67 Z67)
     ·skip
      have HhU := hid (rhU_yes (s := s) (fs := fs) (ev := ev) (mn := mn) (odd := odd) hodd (by rw [Hdf.out]; simpa using h67))
      refine nr ?_; intros; clear hR_A3; refine P2 ?_; refine pas (fun w33 B70 hB Y70 hb34 => ?_); have gb70 := HB.out.gB hB; have lHL19_b70 := HL19.out.gB hB; have ob5_b70 := oB Q5 hB; have ob17_b70 := oB Q17 hB; have ob18_b70 := oB Q18 hB
      have nhO_b70 : ∀ g, vM.ownBlock = some g → g < B70 := fun g hg => by have := (World.ownsRow.lt hO g hg).2; omega
      have eb70 := eB hB; clear hB; clear Q5 Q17 Q18; replace hr12 := Rd.at hr12 hb34; replace hR_A2 := RdSt.at hR_A2 hb34; replace hO := Own.at hO hb34; revert Y18 Y17 Y5 HL19 HB; refine uA hb34 ?_; clear hb34; intro Y18 Q18 Y17 Q17 Y5 Q5 HL19 HB; have Q70 := Y70.1; have hul := halfU_le9 s fs ev mn odd i
      have hNBz : NB ≤ w33.heap.size := by have := Y70.1; omega
      have ab5 : vM.ownBlock ≠ some B5 := fun e => by have n0 := (World.ownsRow.lt hO B5 e).1; omega
      have ab17 : vM.ownBlock ≠ some B17 := fun e => by have n0 := (World.ownsRow.lt hO B17 e).1; have n9 := nhO_b17 B17 e; omega
      have ab18 : vM.ownBlock ≠ some B18 := fun e => by have n0 := (World.ownsRow.lt hO B18 e).1; have n9 := nhO_b18 B18 e; omega
      have ab70 : vM.ownBlock ≠ some B70 := fun e => by have n0 := (World.ownsRow.lt hO B70 e).1; have n9 := nhO_b70 B70 e; omega
      have hzz := HB.out.size; refine listF_step rfl (fun K' hK => ?_); refine opF_app (d := 71) rfl (by decide) (.tmp 68) (.tmp 70) _ rfl 3 i0 _ 8 Tryz.underlying22 hi0 hz0 hy0 hx0 rfl (by decide) (fun _ => rfl) int_one NB vM (halfU s fs ev mn odd i) [(i : Int)] (some ⟨B70, 0, none⟩) 1 (by go_simp) (by go_simp) hO (Cells.rd (f := int1) (m := 1) (l := [(i : Int)]) (fun _ => rfl) Y70) (by unfold maxLen; simp; omega) (by simp; omega) (by omega) (fun v71 w35 hO' hG hV => hK _ _ ?_); clear hK K' hzz; clear Q5 Q17 Q18 Q70; replace Y5 := Y5.grown hG ab5; clear ab5; replace Y17 := Y17.grown hG ab17; clear ab17; replace Y18 := Y18.grown hG ab18; clear ab18; replace Y70 := Y70.grown hG ab70; clear ab70; replace hr12 := Rd.grown hr12 hG (fun _ b hb e => by have n1 := (World.ownsRow.lt hO _ e).1; have n2 := H12.out b hb; omega); replace HL19 := hid (HL19.out.grown hG (fun k hk => .inl (by have := (World.ownsRow.lt hO k hk).1; omega)))
      have HvN := hid (show ∀ k, v71.ownBlock = some k → A2.free s2 k from fun k hk => by rcases hV with e | e <;> rw [e] at hk; exact Hv2.out k hk; cases hk; exact RdSt.freeB hR_A2 (Nat.le_refl _)); replace hR_A2 := hR_A2.grown hG Hv2.out; replace HB := hid (HB.out.grown hG (fun k hk => .inl (by have := (World.ownsRow.lt hO k hk).1; omega))); clear hO; have hO := hO'; clear hO' hG hV; clear nhO_b17 nhO_b18 nhO_b70; have Q5 := Y5.1; have Q17 := Y17.1; have Q18 := Y18.1; have Q70 := Y70.1; refine pl ?_; clear Z13 Z67; refine lx [13] ?_; clear Z1 Z4 Z5 Z14 Z16 Z17 Z63 Z64 Z65 Z66; intro s36 Z1 Z4 Z5 Z14 Z16 Z17 Z63 Z64 Z65 Z66 Z13; refine ln ?_; intros
      have hr12b := hr12; rw [Hae.out] at hr12b; have ce3 := rd_at1 hr12b hi (ends_at hi)
      have hbe3 : be < w35.heap.size := by obtain ⟨b9, o9, h9, h8, _⟩ := RdInts.ne hr12b hi; cases h9; exact h8
      clear hr12b; have cb5 := clx Y5; have cb17 := clx Y17; have cb18 := clx Y18; have cb70_0 := Y70.cell 0 rfl
      have nb17_b5 : ¬ B17 = B5 := by omega
      have nb18_b5 : ¬ B18 = B5 := by omega
      have nb70_b5 : ¬ B70 = B5 := by omega
      refine regionR_F [B5] [[Value.slice Ai.sa si.store.length Ai.sc, Value.slice Ai.ta si.tape.length Ai.tc, .int .i64 si.taken, Value.slice Ai.pa si.printed.length Ai.pc, .int .i64 si.time, .int .i64 si.pc, .int .i64 si.done, .int .i64 si.why]] [7] [.q [], .q [], .q [], .q [], .q [], .st 7] [?v37_0, ?v37_1, ?v37_2, ?v37_3, ?v37_4, fun _ => undef] [fun _ => [], fun _ => [], fun _ => [], fun _ => [], fun _ => [], ?c37_5] (by kernel_rfl) (by kernel_rfl) (by kernel_rfl) (by kernel_rfl) (by kernel_rfl) XW56l (bc_cons (by repeat (first | (with_reducible exact Y5) | (with_reducible refine Cells.drew ?_) | (with_reducible refine Cells.up ?_ _) | (with_reducible refine Cells.setFar ?_ (by omega)))) bc_nil) ?walk37 ?dep37
      case walk37 =>
       iterate 5 refine rq ?_
       refine walkR_st (by rfl) (fun X hX wq hwq hkq => ?_) ?_
       · exact XW56g
       refine walkR_nil (fun X hX w37 hwz hcz => ?_); have kz0 := hcz 7 (by simp); rw [show X 7 = B5 from hX.at0 0 _ rfl] at kz0
       simp only [updC_some, updC_none, Nat.reduceEqDiff, ↓reduceIte] at kz0
       clear hX hcz
       (try clear X)
       clear nb17_b5 nb18_b5 nb70_b5; have hb38 := hwz.unDrew; clear hwz
       (try simp only [stC, mC, tC, tC, List.set_cons_zero, List.set_cons_succ] at kz0)
       clear cb17 cb18 cb5 cb70_0; clear Q5 Q17 Q18 Q70; replace Y5 := kz0; replace hr12 := Rd.oldB hr12 hb38 XW56h; replace hR_A2 := RdSt.oldK hR_A2 XW56j hb38; replace hO := Own.oldB hO hb38 (fun g hg => by have n0 := (World.ownsRow.lt hO g hg).1; first | (simp; done) | (simp; omega)); revert HB; revert HL19; revert Y70; revert Y18; revert Y17; refine uO hb38 ?_; clear hb38; intro Y17 Q17 Y18 Q18 Y70 Q70 HL19 HB; have Q5 := Y5.1; clear kz0; refine pl ?_; clear Z17; refine lx [15] ?_; clear Z1 Z4 Z5 Z13 Z14 Z16 Z63 Z64 Z65 Z66; intro s39 Z1 Z4 Z5 Z13 Z14 Z16 Z63 Z64 Z65 Z66 Z15; refine lr ?_; intros
       refine P3 ?_
       clear Z16; refine lx [16] ?_; clear Z1 Z4 Z5 Z13 Z14 Z15 Z63 Z64 Z65 Z66; intro s40 Z1 Z4 Z5 Z13 Z14 Z15 Z63 Z64 Z65 Z66 Z16; refine ln ?_; intros
       rw [← Hae.out] at Z14; refine ⟨_, _, rfl, ?_, i + 1, A2, _, rfl, (rL Z13), (rL Z15), (rL Z16), sh, sh, sh, sh, HL19.out, (by rw [Hs2.out]; exact Y5), by omega, by have := Y17.1; omega, (by rw [Hs2.out]; exact hR_A2), hid (by rw [Hs2.out]; exact Hf2.out), hid (by rw [Hs2.out]; exact HvN.out), (by rw [HhU.out]; exact hO)⟩
       omega
      case dep37 => exact dA
     ·skip
      have HhU := hid (rhU_no (s := s) (fs := fs) (ev := ev) (mn := mn) (odd := odd) (.inr (by rw [Hdf.out]; simpa using h67)))
      refine zx ?_; intros
      have hr12b := hr12; rw [Hae.out] at hr12b; have ce3 := rd_at1 hr12b hi (ends_at hi)
      have hbe3 : be < w30.heap.size := by obtain ⟨b9, o9, h9, h8, _⟩ := RdInts.ne hr12b hi; cases h9; exact h8
      clear hr12b; have cb5 := clx Y5; have cb17 := clx Y17; have cb18 := clx Y18
      have nb17_b5 : ¬ B17 = B5 := by omega
      have nb18_b5 : ¬ B18 = B5 := by omega
      refine regionR_F [B5] [[Value.slice Ai.sa si.store.length Ai.sc, Value.slice Ai.ta si.tape.length Ai.tc, .int .i64 si.taken, Value.slice Ai.pa si.printed.length Ai.pc, .int .i64 si.time, .int .i64 si.pc, .int .i64 si.done, .int .i64 si.why]] [7] [.q [], .q [], .q [], .q [], .q [], .st 7] [?v38_0, ?v38_1, ?v38_2, ?v38_3, ?v38_4, fun _ => undef] [fun _ => [], fun _ => [], fun _ => [], fun _ => [], fun _ => [], ?c38_5] (by kernel_rfl) (by kernel_rfl) (by kernel_rfl) (by kernel_rfl) (by kernel_rfl) XW56l (bc_cons (by repeat (first | (with_reducible exact Y5) | (with_reducible refine Cells.drew ?_) | (with_reducible refine Cells.up ?_ _) | (with_reducible refine Cells.setFar ?_ (by omega)))) bc_nil) ?walk38 ?dep38
      case walk38 =>
       iterate 5 refine rq ?_
       refine walkR_st (by rfl) (fun X hX wq hwq hkq => ?_) ?_
       · exact XW56g
       refine walkR_nil (fun X hX w41 hwz hcz => ?_); have kz0 := hcz 7 (by simp); rw [show X 7 = B5 from hX.at0 0 _ rfl] at kz0
       simp only [updC_some, updC_none, Nat.reduceEqDiff, ↓reduceIte] at kz0
       clear hX hcz
       (try clear X)
       clear nb17_b5 nb18_b5; have hb42 := hwz.unDrew; clear hwz
       (try simp only [stC, mC, tC, tC, List.set_cons_zero, List.set_cons_succ] at kz0)
       clear cb17 cb18 cb5; clear Q5 Q17 Q18; replace Y5 := kz0; replace hr12 := Rd.oldB hr12 hb42 XW56h; replace hR_A2 := RdSt.oldK hR_A2 XW56j hb42; replace hR_A3 := RdSt.oldK hR_A3 XW56k hb42; replace hO := Own.oldB hO hb42 XW56i; revert HB; revert HL19; revert Y18; revert Y17; refine uO hb42 ?_; clear hb42; intro Y17 Q17 Y18 Q18 HL19 HB; have Q5 := Y5.1; clear kz0; refine pl ?_; clear Z17 Z67; refine lx [15] ?_; clear Z1 Z4 Z5 Z13 Z14 Z16 Z63 Z64 Z65 Z66; intro s43 Z1 Z4 Z5 Z13 Z14 Z16 Z63 Z64 Z65 Z66 Z15; refine lr ?_; intros
       refine P3 ?_
       clear Z16; refine lx [16] ?_; clear Z1 Z4 Z5 Z13 Z14 Z15 Z63 Z64 Z65 Z66; intro s44 Z1 Z4 Z5 Z13 Z14 Z15 Z63 Z64 Z65 Z66 Z16; refine ln ?_; intros
       rw [← Hae.out] at Z14; refine ⟨_, _, rfl, ?_, i + 1, A2, _, rfl, (rL Z13), (rL Z15), (rL Z16), sh, sh, sh, sh, HL19.out, (by rw [Hs2.out]; exact Y5), by omega, by have := Y17.1; omega, (by rw [Hs2.out]; exact hR_A2), hid (by rw [Hs2.out]; exact Hf2.out), hid (by rw [Hs2.out]; exact Hv2.out), (by rw [HhU.out]; exact hO)⟩
       omega
      case dep38 => exact dA
    ·skip
     have hodd : (decide (i % 2 = 1) == odd) = false := by rw [← par_eq]; simpa using h62
     have HhU := hid (rhU_no (s := s) (fs := fs) (ev := ev) (mn := mn) (odd := odd) (.inl hodd))
     refine F4 ?_; refine pl ?_; clear Z18 Z62; refine lx [67] ?_; clear Z1 Z4 Z5 Z13 Z14 Z16 Z17; intro s45 Z1 Z4 Z5 Z13 Z14 Z16 Z17 Z67; refine ln ?_; intros
     refine cond_f ?_
     refine zx ?_; intros
     have hr12b := hr12; rw [Hae.out] at hr12b; have ce3 := rd_at1 hr12b hi (ends_at hi)
     have hbe3 : be < w26.heap.size := by obtain ⟨b9, o9, h9, h8, _⟩ := RdInts.ne hr12b hi; cases h9; exact h8
     clear hr12b; have cb5 := clx Y5; have cb17 := clx Y17; have cb18 := clx Y18
     have nb17_b5 : ¬ B17 = B5 := by omega
     have nb18_b5 : ¬ B18 = B5 := by omega
     refine regionR_F [B5] [[Value.slice Ai.sa si.store.length Ai.sc, Value.slice Ai.ta si.tape.length Ai.tc, .int .i64 si.taken, Value.slice Ai.pa si.printed.length Ai.pc, .int .i64 si.time, .int .i64 si.pc, .int .i64 si.done, .int .i64 si.why]] [7] [.q [], .q [], .q [], .q [], .q [], .st 7] [?v39_0, ?v39_1, ?v39_2, ?v39_3, ?v39_4, fun _ => undef] [fun _ => [], fun _ => [], fun _ => [], fun _ => [], fun _ => [], ?c39_5] (by kernel_rfl) (by kernel_rfl) (by kernel_rfl) (by kernel_rfl) (by kernel_rfl) XW56l (bc_cons (by repeat (first | (with_reducible exact Y5) | (with_reducible refine Cells.drew ?_) | (with_reducible refine Cells.up ?_ _) | (with_reducible refine Cells.setFar ?_ (by omega)))) bc_nil) ?walk39 ?dep39
     case walk39 =>
      iterate 5 refine rq ?_
      refine walkR_st (by rfl) (fun X hX wq hwq hkq => ?_) ?_
      · exact XW56g
      refine walkR_nil (fun X hX w46 hwz hcz => ?_); have kz0 := hcz 7 (by simp); rw [show X 7 = B5 from hX.at0 0 _ rfl] at kz0
      simp only [updC_some, updC_none, Nat.reduceEqDiff, ↓reduceIte] at kz0
      clear hX hcz
      (try clear X)
      clear nb17_b5 nb18_b5; have hb47 := hwz.unDrew; clear hwz
      (try simp only [stC, mC, tC, tC, List.set_cons_zero, List.set_cons_succ] at kz0)
      clear cb17 cb18 cb5; clear Q5 Q17 Q18; replace Y5 := kz0; replace hr12 := Rd.oldB hr12 hb47 XW56h; replace hR_A2 := RdSt.oldK hR_A2 XW56j hb47; replace hR_A3 := RdSt.oldK hR_A3 XW56k hb47; replace hO := Own.oldB hO hb47 XW56i; revert HB; revert HL19; revert Y18; revert Y17; refine uO hb47 ?_; clear hb47; intro Y17 Q17 Y18 Q18 HL19 HB; have Q5 := Y5.1; clear kz0; refine pl ?_; clear Z17 Z67; refine lx [15] ?_; clear Z1 Z4 Z5 Z13 Z14 Z16; intro s48 Z1 Z4 Z5 Z13 Z14 Z16 Z15; refine lr ?_; intros
      refine P3 ?_
      clear Z16; refine lx [16] ?_; clear Z1 Z4 Z5 Z13 Z14 Z15; intro s49 Z1 Z4 Z5 Z13 Z14 Z15 Z16; refine ln ?_; intros
      rw [← Hae.out] at Z14; refine ⟨_, _, rfl, ?_, i + 1, A2, _, rfl, (rL Z13), (rL Z15), (rL Z16), sh, sh, sh, sh, HL19.out, (by rw [Hs2.out]; exact Y5), by omega, by have := Y17.1; omega, (by rw [Hs2.out]; exact hR_A2), hid (by rw [Hs2.out]; exact Hf2.out), hid (by rw [Hs2.out]; exact Hv2.out), (by rw [HhU.out]; exact hO)⟩
      omega
     case dep39 => exact dA
   ·skip
    have hi : i = (endsL ev mn).length := by have h := h39; have h2 := Hcn.out; simp at h; omega
    refine zx ?_; intros
    clear HL19; clear hc0_1 hc0_4 hc0_5 hc0_14; refine region_F ?_
    refine P3 ?_
    clear Z1 Z4 Z5 Z13 Z14 Z15 Z16 Z39; refine lx [10,11] ?_; intro s50 Z10 Z11; refine ln ?_; intros
    refine XW56m ?_
    have e8 : halfU s fs ev mn odd i = l := by rw [Hl9.out, hi, Hel.out]; rfl
    rw [e8] at hO; obtain ⟨a8, c8, rfl, hr8, -⟩ := Own.slice (f := int1) (m := 1) (fun _ => rfl) hO; exact ⟨a8, c8, rfl, hr8, HB.out.toBelow⟩
  ·skip
   have e9 := Hlr.out.symm.trans (halfR_bad2 (HA.out.trans hea) hev)
   obtain ⟨rfl, rfl⟩ : l = [] ∧ er = 7 := by simpa using e9
   refine region_F ?_
   refine P3 ?_
   refine py ?_; refine listF_yes rfl rfl (by decide) ?_ (fun K' hK => ?_); (focus (go_simp; done)); unfold opF; go_simp; refine (rin12_any every 1 1000 _).mono ?_; rintro e w' ⟨rfl, rfl⟩; refine ⟨_, rfl, hK _ _ ?_⟩; clear hK K'; refine py ?_; refine pl ?_; refine lx [29] ?_; clear Z1 Z2 Z3 Z4 Z5 Z12; intro s52 Z1 Z2 Z3 Z4 Z5 Z12 Z29; refine ln ?_; intros
   refine cond_t ?_
   refine nr ?_; intros; refine pl ?_; clear Z12 Z29; refine lx [12] ?_; clear Z1 Z2 Z3 Z4 Z5; intro s53 Z1 Z2 Z3 Z4 Z5 Z12; refine lr ?_; intros; refine P2 ?_; refine lx [31] ?_; clear Z1 Z2 Z3 Z4 Z5 Z12; intro s54 Z1 Z2 Z3 Z4 Z5 Z12 Z31; refine ln ?_; intros
   refine cond_t ?_
   refine nr ?_; intros
   refine P3 ?_
   clear Z1 Z2 Z3 Z4 Z5 Z12 Z31; refine lx [10,11] ?_; intro s55 Z10 Z11; refine ln ?_; intros
   refine XW56m ?_; exact ⟨none, 0, rfl, (Or.inl rfl : RdInts _ _ _), HB.out.toBelow⟩
 ·skip
  have e9 := Hlr.out.symm.trans (halfR_bad HA.out hea)
  obtain ⟨rfl, rfl⟩ : l = [] ∧ er = ea := by simpa using e9
  refine region_F ?_
  refine P3 ?_
  refine F3 ?_; refine pl ?_; refine lx [29] ?_; clear Z1 Z2 Z3 Z4 Z5 Z12; intro s56 Z1 Z2 Z3 Z4 Z5 Z12 Z29; refine ln ?_; intros
  refine cond_f ?_
  refine nr ?_; intros; refine P2 ?_; clear Z29; refine lx [31] ?_; clear Z1 Z2 Z3 Z4 Z5 Z12; intro s57 Z1 Z2 Z3 Z4 Z5 Z12 Z31; refine ln ?_; intros
  refine cond_t ?_
  refine nr ?_; intros
  refine P3 ?_
  clear Z1 Z2 Z3 Z4 Z5 Z12 Z31; refine lx [10,11] ?_; intro s58 Z10 Z11; refine ln ?_; intros
  refine XW56m ?_; exact ⟨none, 0, rfl, (Or.inl rfl : RdInts _ _ _), HB.out.toBelow⟩

end Go.Proofs.YtleknidlgmmgbaaGreat
