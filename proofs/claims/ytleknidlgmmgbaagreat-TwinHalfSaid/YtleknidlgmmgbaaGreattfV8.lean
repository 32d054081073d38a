/- TwinHalf. -/
import Derived.Test.YtleknidlgmmgbaaGreattfW51
import Derived.Test.YtleknidlgmmgbaaGreattfR7
import Derived.Test.YtleknidlgmmgbaaGreattfT11
import Derived.Test.YtleknidlgmmgbaaGreattfCZ
set_option linter.all false
namespace Go.Proofs.YtleknidlgmmgbaaGreat

open Go.RowKit


theorem first_res {s : St4} {fs : List Flt} {most n e : Int} {st : Stp4} (h : firstR s fs most = (n, st, e)) (he : e = 0 ∨ e = 9) : askErr12 s fs most = 0 ∧ (e = 9 → firstN s fs most.toNat = none) ∧ (e = 0 → ∃ k : Nat, firstN s fs most.toNat = some k ∧ n = k) := by
  have hb := ask12_bd s fs most; unfold firstR at h
  by_cases ha : askErr12 s fs most = 0
  · rw [ha, if_neg (by decide)] at h
    refine ⟨ha, ?_⟩
    cases hf : firstN s fs most.toNat with
    | none => rw [hf] at h; obtain ⟨rfl, rfl, rfl⟩ : 0 = n ∧ Stp4.zero = st ∧ 9 = e := by simpa using h
              exact ⟨fun _ => rfl, fun h => absurd h (by decide)⟩
    | some k => rw [hf] at h; simp only [Prod.mk.injEq] at h; obtain ⟨rfl, _, rfl⟩ := h
                exact ⟨fun h => absurd h (by decide), fun _ => ⟨k, rfl, rfl⟩⟩
  · rw [if_pos ha] at h; simp only [Prod.mk.injEq] at h; omega

theorem XV8b {A : Prop} (e : A := by first | exact List.nodup_nil | exact List.nodup_singleton _ | (simp; done) | (simp; omega)) : A := e
theorem XV8c {A B1 : Prop} (hX1 : B1) (e : B1 → A := by exact ret_F _ (res_t Tryz.results6 ((getD_F (by decide)).trans sl6))) : A := e hX1
theorem XV8d {A : Prop} (e : A := by exact ⟨trv, _, rfl, (by first | exact sl78 | (rw [sl78, hL0]; rfl)), (sl1.trans hj48_1.out.symm), (sl3.trans hj48_3.out.symm), (sl5.trans hj48_5.out.symm), (sl7.trans hj48_7.out.symm), (sl9.trans hj48_9.out.symm), (sl10.trans hj48_10.out.symm), (sl11.trans hj48_11.out.symm), (sl12.trans hj48_12.out.symm), (sl13.trans hj48_13.out.symm), HL49.out⟩) : A := e
theorem XV8e {A B1 : Prop} (hX1 : B1) (e : B1 → A := by intro hX1; exact lx [91,92,93,94,95,96,97,98,101,102,103,104,105,106,107,108,109,112,113,114,115,116,117,118,119,120,121,122,123,124,125,126] hX1) : A := e hX1
theorem XV8f {A B1 B2 : Prop} (hX1 : B1) (hX2 : B2) (e : B1 → B2 → A := by intro hX1 hX2; exact walkR_no (b' := true) (by rfl) (by rfl) (by decide) (fun X hX => hX1) (by rfl) hX2) : A := e hX1 hX2
theorem XV8g {A B1 B2 : Prop} (hX1 : B1) (hX2 : B2) (e : B1 → B2 → A := by intro hX1 hX2; exact walkR_no (b' := false) (by rfl) (by rfl) (by decide) (fun X hX => hX1) (by rfl) hX2) : A := e hX1 hX2
set_option maxRecDepth 100000 in
set_option maxHeartbeats 32000000 in
theorem half_walk (s : St4) (A : SA) (af : Option Addr) (cf : Nat) (fs : List Flt) (y0 y1 : Int) (w : World) (hR : RdSt w s A) (hL : LenI s) (hF : RdFl w af fs) (hlf : fs.length ≤ 9223372036854775807) (hy0 : -9223372036854775808 ≤ y0 ∧ y0 ≤ 9223372036854775807) (hy1 : -9223372036854775808 ≤ y1 ∧ y1 ≤ 9223372036854775807) :
    Calls Tryz.prog 6 #[.agg #[.slice A.sa s.store.length A.sc, .slice A.ta s.tape.length A.tc, .int .i64 s.taken, .slice A.pa s.printed.length A.pc, .int .i64 s.time, .int .i64 s.pc, .int .i64 s.done, .int .i64 s.why], .slice af fs.length cf, .agg #[.int .i64 y0, .int .i64 y1]] w (fun e w' => e = .returned (.bool true) ∧ Below w.heap.size w w') := by
 have HR := hid hR; have HL := hid hL; have HF := hid hF; clear hR hL hF; obtain ⟨⟨n, st, e1⟩, hfr⟩ : ∃ z, firstR s fs y1 = z := ⟨_, rfl⟩; have Hfr := hid hfr; clear hfr
 refine enter_F Tryz.func6 rfl Tryz.ntmps6 (by simp) ?_
 intro s0 hs; have sl0 : s0 0 = .agg #[.slice A.sa s.store.length A.sc, .slice A.ta s.tape.length A.tc, .int .i64 s.taken, .slice A.pa s.printed.length A.pc, .int .i64 s.time, .int .i64 s.pc, .int .i64 s.done, .int .i64 s.why] := hs 0 (by simp); have sl1 : s0 1 = .slice af fs.length cf := hs 1 (by simp); have sl2 : s0 2 = .agg #[.int .i64 y0, .int .i64 y1] := hs 2 (by simp); clear hs; have HB := hid (OldB.refl [] w)
 refine nr ?_; intros; refine pa (fun _ B3 hB kb3 hb2 => ?_); have gb3 := HB.out.gB hB; have eb3 := eB hB; clear hB; replace HB := bE HB hb2; clear hb2; have qb3 := kb3.1; refine pa (fun _ B5 hB kb5 hb4 => ?_); have gb5 := HB.out.gB hB; have ob3_b5 := oB qb3 hB; have eb5 := eB hB; clear hB; clear qb3; revert HB; revert kb3; refine uA hb4 ?_; clear hb4; intro kb3 qb3 HB; have qb5 := kb5.1; refine pl ?_; clear sl0 sl2; refine lx [3,5] ?_; clear sl1; intro _ sl1 sl3 sl5; refine lr ?_; intros; have cb3 := clx kb3
 refine P3 ?_
 have cb5 := clx kb5; refine pl ?_; refine cal (tfirst12_v s A af cf fs y1 n e1 st _ (HR.out.old HB.out) HL.out hlf (Rd.oldB HF.out HB.out (by simp)) Hfr.out) ?_; rintro e _ ⟨rfl, hb7⟩; refine ⟨_, rfl, ?_⟩; clear cb3 cb5; clear qb3 qb5; revert HB; revert kb5; revert kb3; refine uA hb7 ?_; clear hb7; intro kb3 qb3 kb5 qb5 HB
 refine P4 ?_
 refine pa (fun _ B8 hB kb8 hb9 => ?_); have gb8 := HB.out.gB hB; have ob3_b8 := oB qb3 hB; have ob5_b8 := oB qb5 hB; have eb8 := eB hB; clear hB; clear qb3 qb5; revert HB; revert kb5; revert kb3; refine uA hb9 ?_; clear hb9; intro kb3 qb3 kb5 qb5 HB; have qb8 := kb8.1; refine pl ?_; have cb8 := clx kb8; have zb8 := kb8.2.2; refine pl ?_; refine sto kb8 ?_; clear kb8 cb8 zb8; intro w10 kb8 hb11; clear qb3 qb5 qb8; revert HB; revert kb5; revert kb3; refine uO hb11 ?_; clear hb11; intro kb3 qb3 kb5 qb5 HB; have qb8 := kb8.1; refine pl ?_; refine lx [7,9] ?_; clear sl1 sl3 sl5; intro s12 sl1 sl3 sl5 sl7 sl9; refine ln ?_; intros
 have hj13_1 := hid sl1; have hj13_3 := hid sl3; have hj13_5 := hid sl5; have hj13_7 := hid sl7; have hj13_9 := hid sl9; refine cut_any (fun sJ wJ => sJ 42 = .bool (B2 e1 y0) ∧ sJ 1 = s12 1 ∧ sJ 3 = s12 3 ∧ sJ 5 = s12 5 ∧ sJ 7 = s12 7 ∧ sJ 9 = s12 9 ∧ OldB [] w10 wJ) ?_ ?_
 ·skip
  have HL14 := hid (OldB.refl [] w10); refine region_F ?_
  refine P3 ?_
  refine lx [29] ?_; clear sl1 sl3 sl5 sl7 sl9; intro _ sl1 sl3 sl5 sl7 sl9 sl29
  refine boolG sl29 (fun sl29' h29 => ?_) (fun sl29' h29 => ?_) <;> (clear sl29; have sl29 := sl29'; clear sl29')
  ·skip
   refine py ?_; refine py ?_; refine P2 ?_; clear sl29; refine lx [33] ?_; clear sl1 sl3 sl5 sl7 sl9; intro _ sl1 sl3 sl5 sl7 sl9 sl33
   refine boolG sl33 (fun sl33' h33 => ?_) (fun sl33' h33 => ?_) <;> (clear sl33; have sl33 := sl33'; clear sl33')
   ·skip
    refine pn true ?_; refine pn true ?_; refine pn true ?_; refine P2 ?_
    refine pn true ?_; refine pn true ?_; refine pn true ?_; refine pl ?_; clear sl33; refine lx [42] ?_; clear sl1 sl3 sl5 sl7 sl9; intro _ sl1 sl3 sl5 sl7 sl9 sl42; refine ln ?_; intros
    exact ⟨trv, _, rfl, (by rw [sl42]; have g29 := h29; simp at g29; have g33 := h33; simp at g33;  simp [B2, *] <;> omega), (sl1.trans hj13_1.out.symm), (sl3.trans hj13_3.out.symm), (sl5.trans hj13_5.out.symm), (sl7.trans hj13_7.out.symm), (sl9.trans hj13_9.out.symm), HL14.out⟩
   ·skip
    refine py ?_; have cb5 := clx kb5; refine py ?_; refine py ?_; refine P2 ?_; clear sl33; refine lx [38] ?_; clear sl1 sl3 sl5 sl7 sl9; intro _ sl1 sl3 sl5 sl7 sl9 sl38
    refine boolG sl38 (fun sl38' h38 => ?_) (fun sl38' h38 => ?_) <;> (clear sl38; have sl38 := sl38'; clear sl38')
    ·skip
     refine pn true ?_; refine pn true ?_; refine pn true ?_; refine pl ?_; clear sl38; refine lx [42] ?_; clear sl1 sl3 sl5 sl7 sl9; intro _ sl1 sl3 sl5 sl7 sl9 sl42; refine ln ?_; intros
     clear cb5; exact ⟨trv, _, rfl, (by rw [sl42]; have g29 := h29; simp at g29; have g33 := h33; simp at g33; have g38 := h38; simp at g38;  simp [B2, *] <;> omega), (sl1.trans hj13_1.out.symm), (sl3.trans hj13_3.out.symm), (sl5.trans hj13_5.out.symm), (sl7.trans hj13_7.out.symm), (sl9.trans hj13_9.out.symm), HL14.out⟩
    ·skip
     iterate 3 refine py ?_
     refine pl ?_; clear sl38; refine lx [42] ?_; clear sl1 sl3 sl5 sl7 sl9; intro _ sl1 sl3 sl5 sl7 sl9 sl42; refine ln ?_; intros
     clear cb5; exact ⟨trv, _, rfl, (by rw [sl42]; have g29 := h29; simp at g29; have g33 := h33; simp at g33; have g38 := h38; simp at g38;  simp [B2, *] <;> omega), (sl1.trans hj13_1.out.symm), (sl3.trans hj13_3.out.symm), (sl5.trans hj13_5.out.symm), (sl7.trans hj13_7.out.symm), (sl9.trans hj13_9.out.symm), HL14.out⟩
  ·skip
   refine F2 ?_; refine P2 ?_; refine py ?_; have cb5 := clx kb5; refine py ?_; refine py ?_; refine P2 ?_; clear sl29; refine lx [38] ?_; clear sl1 sl3 sl5 sl7 sl9; intro _ sl1 sl3 sl5 sl7 sl9 sl38
   refine boolG sl38 (fun sl38' h38 => ?_) (fun sl38' h38 => ?_) <;> (clear sl38; have sl38 := sl38'; clear sl38')
   ·skip
    refine pn true ?_; refine pn true ?_; refine pn true ?_; refine pl ?_; clear sl38; refine lx [42] ?_; clear sl1 sl3 sl5 sl7 sl9; intro _ sl1 sl3 sl5 sl7 sl9 sl42; refine ln ?_; intros
    clear cb5; exact ⟨trv, _, rfl, (by rw [sl42]; have g29 := h29; simp at g29; have g38 := h38; simp at g38;  simp [B2, *] <;> omega), (sl1.trans hj13_1.out.symm), (sl3.trans hj13_3.out.symm), (sl5.trans hj13_5.out.symm), (sl7.trans hj13_7.out.symm), (sl9.trans hj13_9.out.symm), HL14.out⟩
   ·skip
    iterate 3 refine py ?_
    refine pl ?_; clear sl38; refine lx [42] ?_; clear sl1 sl3 sl5 sl7 sl9; intro _ sl1 sl3 sl5 sl7 sl9 sl42; refine ln ?_; intros
    clear cb5; exact ⟨trv, _, rfl, (by rw [sl42]; have g29 := h29; simp at g29; have g38 := h38; simp at g38;  simp [B2, *] <;> omega), (sl1.trans hj13_1.out.symm), (sl3.trans hj13_3.out.symm), (sl5.trans hj13_5.out.symm), (sl7.trans hj13_7.out.symm), (sl9.trans hj13_9.out.symm), HL14.out⟩
 ·skip
  rintro s24 w25 ⟨sl42, e1, e3, e5, e7, e9, hb26⟩; replace sl1 := e1.trans sl1; clear e1 hj13_1; replace sl3 := e3.trans sl3; clear e3 hj13_3; replace sl5 := e5.trans sl5; clear e5 hj13_5; replace sl7 := e7.trans sl7; clear e7 hj13_7; replace sl9 := e9.trans sl9; clear e9 hj13_9; clear qb3 qb5 qb8; revert HB; revert kb8; revert kb5; revert kb3; refine uO hb26 ?_; clear hb26; intro kb3 qb3 kb5 qb5 kb8 qb8 HB
  refine zx ?_; intros
  refine cond_E sl42 (by decide) ?_ ?_ <;> (clear sl42; intro h42 sl42)
  ·skip
   refine nr ?_; intros; refine cal (awake_any _) ?_; rintro e _ ⟨rfl, hb28⟩; refine ⟨_, rfl, ?_⟩; clear qb3 qb5 qb8; revert HB; revert kb8; revert kb5; revert kb3; refine uA hb28 ?_; clear hb28; intro kb3 qb3 kb5 qb5 kb8 qb8 HB; refine pl ?_; clear sl1 sl3 sl5 sl7 sl9 sl42; refine lx [6] ?_; intro _ sl6; refine ln ?_; intros
   refine XV8c ?_; exact ⟨rfl, HB.out.toBelow⟩
  ·skip
   have hb2 : (e1 = 0 ∨ e1 = 9) ∧ 1 ≤ y0 ∧ y0 ≤ 1000 := by have h := h42; simp [B2] at h; omega
   obtain ⟨hak, hn9, hn0⟩ := first_res Hfr.out hb2.1; obtain ⟨hOk, hl10, hfo, hm0, hm1⟩ := ask12_zero.1 hak; obtain ⟨mn, rfl⟩ : ∃ k : Nat, y1 = k := ⟨y1.toNat, by omega⟩; obtain ⟨e0, rfl⟩ : ∃ k : Nat, y0 = k := ⟨y0.toNat, by omega⟩; rw [Int.toNat_natCast] at hn9 hn0; have Hak := hid hak; have HOk := hid hOk; have Hfo := hid hfo; have Hn9 := hid hn9; have Hn0 := hid hn0; have He1 := hid hb2.1; have hb0 := hb2.2; clear hak hOk hfo hn9 hn0 hb2
   refine nr ?_; intros; refine pl ?_; clear sl42; refine lx [10] ?_; clear sl1 sl3 sl5 sl7 sl9; intro _ sl1 sl3 sl5 sl7 sl9 sl10; refine lr ?_; intros; refine pl ?_; refine lx [11] ?_; clear sl1 sl3 sl5 sl7 sl9 sl10; intro s31 sl1 sl3 sl5 sl7 sl9 sl10 sl11; refine ln ?_; intros
   have hc0_1 := hid sl1; have hc0_3 := hid sl3; have hc0_5 := hid sl5; have hc0_7 := hid sl7; have hc0_9 := hid sl9; refine loop_F (n := 181) (fun kJ sJ wJ => ∃ (t : Nat), kJ = 4 - t ∧ sJ 10 = .int .i64 (leastT s fs e0 mn t) ∧ sJ 11 = .int .i64 (t : Int) ∧ sJ 1 = s31 1 ∧ sJ 3 = s31 3 ∧ sJ 5 = s31 5 ∧ sJ 7 = s31 7 ∧ sJ 9 = s31 9 ∧ OldB [] w25 wJ ∧ t ≤ 4) ⟨0, rfl, (by first | exact sl10 | (rw [sl10]; go_num) | (rw [sl10]; rfl)), (by first | exact sl11 | (rw [sl11]; go_num) | (rw [sl11]; rfl)), rfl, rfl, rfl, rfl, rfl, OldB.refl _ _, Nat.zero_le _⟩ ?_; clear sl10 sl11; rintro kJ s32 w33 ⟨t, rfl, sl10, sl11, e1, e3, e5, e7, e9, hb34, htl⟩; replace sl1 := e1.trans sl1; clear e1; replace sl3 := e3.trans sl3; clear e3; replace sl5 := e5.trans sl5; clear e5; replace sl7 := e7.trans sl7; clear e7; replace sl9 := e9.trans sl9; clear e9; have hoJ := hb34; clear qb3 qb5 qb8; revert HB; revert kb8; revert kb5; revert kb3; refine uO hb34 ?_; clear hb34; intro kb3 qb3 kb5 qb5 kb8 qb8 HB; have HoJ := hid hoJ; clear hoJ; have HL35 := HoJ; clear HoJ
   refine nr ?_; intros; refine P2 ?_; refine lx [45] ?_; clear sl1 sl3 sl5 sl7 sl9 sl10 sl11; intro _ sl1 sl3 sl5 sl7 sl9 sl10 sl11 sl45; refine ln ?_; intros
   refine cond_E sl45 (by decide) ?_ ?_ <;> (clear sl45; intro h45 sl45)
   ·skip
    have ht : t < 4 := by have h := h45; simp at h; omega
    refine nr ?_; intros; refine pl ?_; clear sl45; refine lx [12] ?_; clear sl1 sl3 sl5 sl7 sl9 sl10 sl11; intro _ sl1 sl3 sl5 sl7 sl9 sl10 sl11 sl12; refine lr ?_; intros; refine P2 ?_; refine lx [49] ?_; clear sl1 sl3 sl5 sl7 sl9 sl10 sl11 sl12; intro s38 sl1 sl3 sl5 sl7 sl9 sl10 sl11 sl12 sl49; refine ln ?_; intros
    have hj39_1 := hid sl1; have hj39_3 := hid sl3; have hj39_5 := hid sl5; have hj39_7 := hid sl7; have hj39_9 := hid sl9; have hj39_10 := hid sl10; have hj39_11 := hid sl11; refine cut_any (fun sJ wJ => sJ 12 = .int .i64 (evT e0 t : Int) ∧ sJ 1 = s38 1 ∧ sJ 3 = s38 3 ∧ sJ 5 = s38 5 ∧ sJ 7 = s38 7 ∧ sJ 9 = s38 9 ∧ sJ 10 = s38 10 ∧ sJ 11 = s38 11 ∧ OldB [] w33 wJ) ?_ ?_
    ·skip
     have HL40 := hid (OldB.refl [] w33)
     refine cond_E sl49 (by decide) ?_ ?_ <;> (clear sl49; intro h49 sl49)
     ·skip
      have ht2 : t < 2 := by have h := h49; simp at h; omega
      refine nr ?_; intros; refine pl ?_; have cb5 := clx kb5; refine P2 ?_; clear sl12 sl49; refine lx [12] ?_; clear sl1 sl3 sl5 sl7 sl9 sl10 sl11; intro _ sl1 sl3 sl5 sl7 sl9 sl10 sl11 sl12; refine ln ?_; intros
      clear cb5; exact ⟨trv, _, rfl, (by rw [sl12, evT, if_pos ht2]), (sl1.trans hj39_1.out.symm), (sl3.trans hj39_3.out.symm), (sl5.trans hj39_5.out.symm), (sl7.trans hj39_7.out.symm), (sl9.trans hj39_9.out.symm), (sl10.trans hj39_10.out.symm), (sl11.trans hj39_11.out.symm), HL40.out⟩
     ·skip
      have ht2 : ¬ t < 2 := by have h := h49; simp at h; omega
      refine zx ?_; intros
      exact ⟨trv, _, rfl, (by rw [sl12, evT, if_neg ht2]; rfl), (sl1.trans hj39_1.out.symm), (sl3.trans hj39_3.out.symm), (sl5.trans hj39_5.out.symm), (sl7.trans hj39_7.out.symm), (sl9.trans hj39_9.out.symm), (sl10.trans hj39_10.out.symm), (sl11.trans hj39_11.out.symm), HL40.out⟩
    ·skip
     clear sl12 sl49; rintro s42 w43 ⟨sl12, e1, e3, e5, e7, e9, e10, e11, hb44⟩; replace sl1 := e1.trans sl1; clear e1 hj39_1; replace sl3 := e3.trans sl3; clear e3 hj39_3; replace sl5 := e5.trans sl5; clear e5 hj39_5; replace sl7 := e7.trans sl7; clear e7 hj39_7; replace sl9 := e9.trans sl9; clear e9 hj39_9; replace sl10 := e10.trans sl10; clear e10 hj39_10; replace sl11 := e11.trans sl11; clear e11 hj39_11; clear qb3 qb5 qb8; revert HB; revert HL35; revert kb8; revert kb5; revert kb3; refine uO hb44 ?_; clear hb44; intro kb3 qb3 kb5 qb5 kb8 qb8 HL35 HB; obtain ⟨ev, hev⟩ : ∃ z, evT e0 t = z := ⟨_, rfl⟩; rw [hev] at sl12; have Hev := hid hev
     have hev1 : 1 ≤ ev ∧ ev ≤ 1000 := by rw [← hev]; unfold evT; split <;> omega
     obtain ⟨L, hL⟩ : ∃ z, halfL s fs ev mn (decide (t % 2 = 1)) = z := ⟨_, rfl⟩; have HLh := hid hL
     have hLl : L.length ≤ 1000 := by rw [← hL]; have h1 := halfU_len (s := s) (fs := fs) (every := ev) (most := mn) (odd := decide (t % 2 = 1)) (cntN ev mn); have h2 := cnt_le (every := ev) (most := mn) hev1.1; unfold halfL; omega
     have Hls := hid (show leastT s fs e0 mn (t + 1) = stepL ev L (leastT s fs e0 mn t) by rw [← hL, ← hev]; rfl); have HhR := hid (show halfR s fs (ev : Int) (mn : Int) (decide ((t : Int).tmod 2 = 1)) = (L, 0) by rw [show decide ((t : Int).tmod 2 = 1) = decide (t % 2 = 1) by rw [decide_eq_decide, Int.tmod_eq_emod_of_nonneg (by omega)]; omega, halfR_ok Hak.out ((inI_iff _ _ _).2 (by omega)), hL]); clear hev hL
     refine nr ?_; intros; have cb3 := clx kb3
     refine P4 ?_
     have cb5 := clx kb5
     refine P4 ?_
     refine cal (thalf_v s A af cf fs (ev : Int) (mn : Int) 0 _ L _ (HR.out.old HB.out) HL.out hlf (Rd.oldB HF.out HB.out (by simp)) HhR.out) ?_; rintro e w45 ⟨a13, c13, rfl, hr13, -, hb46⟩; refine ⟨_, rfl, ?_⟩; clear cb3 cb5; clear qb3 qb5 qb8; revert HB; revert HL35; revert kb8; revert kb5; revert kb3; refine uA hb46 ?_; clear hb46; intro kb3 qb3 kb5 qb5 kb8 qb8 HL35 HB
     refine P5 ?_
     refine lx [13,14] ?_; clear sl1 sl3 sl5 sl7 sl9 sl10 sl11 sl12; intro s47 sl1 sl3 sl5 sl7 sl9 sl10 sl11 sl12 sl13 sl14; refine ln ?_; intros
     have hj48_1 := hid sl1; have hj48_3 := hid sl3; have hj48_5 := hid sl5; have hj48_7 := hid sl7; have hj48_9 := hid sl9; have hj48_10 := hid sl10; have hj48_11 := hid sl11; have hj48_12 := hid sl12; have hj48_13 := hid sl13; refine cut_any (fun sJ wJ => sJ 78 = .bool false ∧ sJ 1 = s47 1 ∧ sJ 3 = s47 3 ∧ sJ 5 = s47 5 ∧ sJ 7 = s47 7 ∧ sJ 9 = s47 9 ∧ sJ 10 = s47 10 ∧ sJ 11 = s47 11 ∧ sJ 12 = s47 12 ∧ sJ 13 = s47 13 ∧ OldB [] w45 wJ) ?_ ?_
     ·skip
      have HL49 := hid (OldB.refl [] w45); refine region_F ?_
      refine P3 ?_
      iterate 3 refine py ?_
      clear sl14; refine lx [66,67,68,69] ?_; clear sl1 sl3 sl5 sl7 sl9 sl10 sl11 sl12 sl13; intro _ sl1 sl3 sl5 sl7 sl9 sl10 sl11 sl12 sl13 sl66 sl67 sl68 sl69
      refine boolG sl69 (fun sl69' h69 => ?_) (fun sl69' h69 => ?_) <;> (clear sl69; have sl69 := sl69'; clear sl69')
      ·skip
       iterate 4 refine py ?_
       refine lx [70,71,72,73] ?_; clear sl1 sl3 sl5 sl7 sl9 sl10 sl11 sl12 sl13 sl66 sl67 sl68 sl69; intro _ sl1 sl3 sl5 sl7 sl9 sl10 sl11 sl12 sl13 sl66 sl67 sl68 sl69 sl70 sl71 sl72 sl73
       refine boolG sl73 (fun sl73' h73 => ?_) (fun sl73' h73 => ?_) <;> (clear sl73; have sl73 := sl73'; clear sl73')
       ·skip
        have hL0 : L = [] := by have h := h73; have h2 := h69; simp at h h2; rw [← HLh.out, show ev = 1 by omega]; exact half_none (Hn9.out h2)
        iterate 4 refine py ?_
        refine pl ?_; clear sl66; refine lx [74,75,76,77,78] ?_; clear sl1 sl3 sl5 sl7 sl9 sl10 sl11 sl12 sl13 sl67 sl68 sl69 sl70 sl71 sl72 sl73; intro _ sl1 sl3 sl5 sl7 sl9 sl10 sl11 sl12 sl13 sl67 sl68 sl69 sl70 sl71 sl72 sl73 sl74 sl75 sl76 sl77 sl78; refine ln ?_; intros
        exact XV8d
       ·skip
        refine F3 ?_; refine py ?_; refine pl ?_; clear sl66; refine lx [77,78] ?_; clear sl1 sl3 sl5 sl7 sl9 sl10 sl11 sl12 sl13 sl67 sl68 sl69 sl70 sl71 sl72 sl73; intro _ sl1 sl3 sl5 sl7 sl9 sl10 sl11 sl12 sl13 sl67 sl68 sl69 sl70 sl71 sl72 sl73 sl77 sl78; refine ln ?_; intros
        exact XV8d
      ·skip
       refine F2 ?_; refine py ?_; refine py ?_
       refine F3 ?_; refine py ?_; refine pl ?_; clear sl66; refine lx [72,73,77,78] ?_; clear sl1 sl3 sl5 sl7 sl9 sl10 sl11 sl12 sl13 sl67 sl68 sl69; intro _ sl1 sl3 sl5 sl7 sl9 sl10 sl11 sl12 sl13 sl67 sl68 sl69 sl72 sl73 sl77 sl78; refine ln ?_; intros
       exact XV8d
     ·skip
      clear sl14; rintro s55 w56 ⟨sl78, e1, e3, e5, e7, e9, e10, e11, e12, e13, hb57⟩; replace sl1 := e1.trans sl1; clear e1 hj48_1; replace sl3 := e3.trans sl3; clear e3 hj48_3; replace sl5 := e5.trans sl5; clear e5 hj48_5; replace sl7 := e7.trans sl7; clear e7 hj48_7; replace sl9 := e9.trans sl9; clear e9 hj48_9; replace sl10 := e10.trans sl10; clear e10 hj48_10; replace sl11 := e11.trans sl11; clear e11 hj48_11; replace sl12 := e12.trans sl12; clear e12 hj48_12; replace sl13 := e13.trans sl13; clear e13 hj48_13; clear qb3 qb5 qb8; replace hr13 := Rd.oldB hr13 hb57 (by simp); revert HB; revert HL35; revert kb8; revert kb5; revert kb3; refine uO hb57 ?_; clear hb57; intro kb3 qb3 kb5 qb5 kb8 qb8 HL35 HB
      refine zx ?_; intros
      refine cond_f ?_
      refine nr ?_; intros; refine pl ?_; clear sl78; refine lx [15] ?_; clear sl1 sl3 sl5 sl7 sl9 sl10 sl11 sl12 sl13; intro s58 sl1 sl3 sl5 sl7 sl9 sl10 sl11 sl12 sl13 sl15; refine ln ?_; intros
      have hc1_1 := hid sl1; have hc1_3 := hid sl3; have hc1_5 := hid sl5; have hc1_7 := hid sl7; have hc1_9 := hid sl9; have hc1_10 := hid sl10; have hc1_11 := hid sl11; have hc1_12 := hid sl12; have hc1_13 := hid sl13; refine loop_F (n := 181) (fun kJ sJ wJ => ∃ (i : Nat), kJ = L.length - i ∧ sJ 15 = .int .i64 (i : Int) ∧ sJ 1 = s58 1 ∧ sJ 3 = s58 3 ∧ sJ 5 = s58 5 ∧ sJ 7 = s58 7 ∧ sJ 9 = s58 9 ∧ sJ 10 = s58 10 ∧ sJ 11 = s58 11 ∧ sJ 12 = s58 12 ∧ sJ 13 = s58 13 ∧ OldB [] w56 wJ ∧ i ≤ L.length) ⟨0, rfl, (by first | exact sl15 | (rw [sl15]; go_num) | (rw [sl15]; rfl)), rfl, rfl, rfl, rfl, rfl, rfl, rfl, rfl, rfl, OldB.refl _ _, Nat.zero_le _⟩ ?_; clear sl15; rintro kJ s59 w60 ⟨i, rfl, sl15, e1, e3, e5, e7, e9, e10, e11, e12, e13, hb61, hil⟩; replace sl1 := e1.trans sl1; clear e1; replace sl3 := e3.trans sl3; clear e3; replace sl5 := e5.trans sl5; clear e5; replace sl7 := e7.trans sl7; clear e7; replace sl9 := e9.trans sl9; clear e9
      replace sl10 := e10.trans sl10; clear e10; replace sl11 := e11.trans sl11; clear e11; replace sl12 := e12.trans sl12; clear e12; replace sl13 := e13.trans sl13; clear e13; have hoJ := hb61; clear qb3 qb5 qb8; replace hr13 := Rd.oldB hr13 hb61 (by simp); revert HB; revert HL35; revert kb8; revert kb5; revert kb3; refine uO hb61 ?_; clear hb61; intro kb3 qb3 kb5 qb5 kb8 qb8 HL35 HB; have HoJ := hid hoJ; clear hoJ; have HL62 := HoJ; clear HoJ
      refine nr ?_; intros
      refine P4 ?_
      refine lx [82] ?_; clear sl1 sl3 sl5 sl7 sl9 sl10 sl11 sl12 sl13 sl15; intro _ sl1 sl3 sl5 sl7 sl9 sl10 sl11 sl12 sl13 sl15 sl82; refine ln ?_; intros
      refine cond_E sl82 (by decide) ?_ ?_ <;> (clear sl82; intro h82 sl82)
      ·skip
       have hi : i < L.length := by simpa using h82
       have hii : (i : Int) < L.length := by omega
       obtain ⟨b13, o13, ha13, hb13, ce⟩ := RdInts.ne hr13 hi; obtain ⟨x, hx⟩ : ∃ y, L[i] = y := ⟨_, rfl⟩; have Hx0 := hid hx; have hmm := half_in (x := x) (s := s) (fs := fs) (ev := ev) (mn := mn) (odd := decide (t % 2 = 1)) (by omega) Hfo.out (by rw [HLh.out, ← hx]; exact List.getElem_mem hi); rw [hx] at ce; clear hx; obtain ⟨j, hxj, hpar, hjlt, hjc, hjf⟩ := hmm; subst hxj; have Hx := Hx0; clear Hx0; have Ha13 := hid ha13; rw [Ha13.out] at sl13; have Hjf := hid hjf; obtain ⟨pj, hpj⟩ : ∃ z, j * ev = z := ⟨_, rfl⟩; rw [hpj] at hjlt
       have wje : IntKind.i64.wrap ((j : Int) * (ev : Int)) = (pj : Int) := by rw [show (j : Int) * (ev : Int) = (pj : Int) by rw [← hpj, Int.natCast_mul]]; exact IntWalk.i64_in _ (by omega)
       have g17a : ¬ (j : Int) < 0 := by omega
       have g17b : (j : Int).tmod 2 = (t : Int).tmod 2 := by rw [Int.tmod_eq_emod_of_nonneg (by omega), Int.tmod_eq_emod_of_nonneg (by omega)]; rw [decide_eq_decide] at hpar; omega
       have g17c : ¬ (mn : Int) ≤ (pj : Int) := by omega
       clear ha13 hjf hjlt hjc hpj
       refine zx ?_; intros
       by_cases hi0 : 0 < i
       ·skip
        obtain ⟨i1, hie⟩ : ∃ z, i = z + 1 := ⟨i - 1, by omega⟩
        have hi1 : i1 < L.length := by omega
        have hii1 : (i1 : Int) < L.length := by omega
        obtain ⟨x1, hx1⟩ : ∃ y, L[i1] = y := ⟨_, rfl⟩
        have g17d : ¬ (j : Int) ≤ x1 := by have := half_lt (s := s) (fs := fs) (ev := ev) (mn := mn) (odd := decide (t % 2 = 1)) (j := i1) (i := i) (by omega) (by rw [HLh.out]; exact hi); simp only [HLh.out] at this; rw [Hx.out, hx1] at this; omega
        obtain ⟨b12, o12, ha12, -, ce1⟩ := RdInts.ne hr13 hi1
        cases Ha13.out.symm.trans ha12
        rw [hx1] at ce1
        have w17 : IntKind.i64.wrap ((i : Int) - 1) = (i1 : Int) := by rw [IntWalk.i64_in _ (by omega)]; omega
        clear hie; have cb3 := clx kb3; have cb5 := clx kb5; have cb8 := clx kb8; refine rgQ 42 [?_,?_,?_,?_,?_,?_,?_,?_,?_,?_,?_,?_,?_,?_,?_,?_,?_,?_,?_,?_,?_,?_,?_,?_,?_,?_,?_,?_,?_,?_,?_,?_,?_,?_,?_,?_,?_,?_,?_,?_,?_,?_] ?walk22 ?dep22
        case walk22 =>
         iterate 6 refine rq ?_
         iterate 8 refine rqy ?_
         refine rq ?_; refine rq ?_
         iterate 9 refine rqy ?_
         refine rq ?_; refine rq ?_
         iterate 14 refine rqy ?_
         refine rq ?_; refine walkR_nil (fun X hX w64 hwz hcz => ?_); clear hX hcz
         (try clear X)
         skip; have hb65 := hwz.unDrew; clear hwz; clear cb3 cb5 cb8; clear qb3 qb5 qb8; replace hr13 := Rd.oldB hr13 hb65 (by simp); revert HB; revert HL62; revert HL35; revert kb8; revert kb5; revert kb3; refine uO hb65 ?_; clear hb65; intro kb3 qb3 kb5 qb5 kb8 qb8 HL35 HL62 HB; clear sl82; refine XV8e ?_; clear sl1 sl3 sl5 sl7 sl9 sl10 sl11 sl12 sl13 sl15; intro _ sl1 sl3 sl5 sl7 sl9 sl10 sl11 sl12 sl13 sl15 sl91 sl92 sl93 sl94 sl95 sl96 sl97 sl98 sl101 sl102 sl103 sl104 sl105 sl106 sl107 sl108 sl109 sl112 sl113 sl114 sl115 sl116 sl117 sl118 sl119 sl120 sl121 sl122 sl123 sl124 sl125 sl126; refine ln ?_; intros
         refine cond_f ?_
         refine nr ?_; intros; refine pl ?_; refine lsa fun s67 z' => ?_; replace sl1 := slg z' sl1; replace sl3 := slg z' sl3; replace sl5 := slg z' sl5; replace sl7 := slg z' sl7; replace sl9 := slg z' sl9; replace sl10 := slg z' sl10; replace sl11 := slg z' sl11; replace sl12 := slg z' sl12; replace sl13 := slg z' sl13; replace sl15 := slg z' sl15; have sl16 := gu 16 z'; replace sl91 := slg z' sl91; replace sl92 := slg z' sl92; replace sl93 := slg z' sl93; replace sl94 := slg z' sl94; replace sl95 := slg z' sl95; replace sl96 := slg z' sl96; replace sl97 := slg z' sl97; replace sl98 := slg z' sl98; replace sl101 := slg z' sl101; replace sl102 := slg z' sl102; replace sl103 := slg z' sl103; replace sl104 := slg z' sl104; replace sl105 := slg z' sl105; replace sl106 := slg z' sl106; replace sl107 := slg z' sl107; replace sl108 := slg z' sl108; replace sl109 := slg z' sl109; replace sl112 := slg z' sl112; replace sl113 := slg z' sl113
         replace sl114 := slg z' sl114; replace sl115 := slg z' sl115; replace sl116 := slg z' sl116; replace sl117 := slg z' sl117; replace sl118 := slg z' sl118; replace sl119 := slg z' sl119; replace sl120 := slg z' sl120; replace sl121 := slg z' sl121; replace sl122 := slg z' sl122; replace sl123 := slg z' sl123; replace sl124 := slg z' sl124; replace sl125 := slg z' sl125; clear z' sl126; refine lr ?_; intros; refine pl ?_; refine lsa fun s68 z' => ?_; replace sl1 := slg z' sl1; replace sl3 := slg z' sl3; replace sl5 := slg z' sl5; replace sl7 := slg z' sl7; replace sl9 := slg z' sl9; replace sl10 := slg z' sl10; replace sl11 := slg z' sl11; replace sl12 := slg z' sl12; replace sl13 := slg z' sl13; replace sl15 := slg z' sl15; replace sl16 := slg z' sl16; have sl17 := gu 17 z'; replace sl91 := slg z' sl91; replace sl92 := slg z' sl92; replace sl93 := slg z' sl93; replace sl94 := slg z' sl94; replace sl95 := slg z' sl95; replace sl96 := slg z' sl96; replace sl97 := slg z' sl97; replace sl98 := slg z' sl98; replace sl101 := slg z' sl101; replace sl102 := slg z' sl102; replace sl103 := slg z' sl103; replace sl104 := slg z' sl104; replace sl105 := slg z' sl105; replace sl106 := slg z' sl106; replace sl107 := slg z' sl107; replace sl108 := slg z' sl108; replace sl109 := slg z' sl109; replace sl112 := slg z' sl112
         replace sl113 := slg z' sl113; replace sl114 := slg z' sl114; replace sl115 := slg z' sl115; replace sl116 := slg z' sl116; replace sl117 := slg z' sl117; replace sl118 := slg z' sl118; replace sl119 := slg z' sl119; replace sl120 := slg z' sl120; replace sl121 := slg z' sl121; replace sl122 := slg z' sl122; replace sl123 := slg z' sl123; replace sl124 := slg z' sl124; replace sl125 := slg z' sl125; clear z'; refine ln ?_; intros
         have hc2_1 := hid sl1; have hc2_3 := hid sl3; have hc2_5 := hid sl5; have hc2_7 := hid sl7; have hc2_9 := hid sl9; have hc2_10 := hid sl10; have hc2_11 := hid sl11; have hc2_12 := hid sl12; have hc2_13 := hid sl13; have hc2_15 := hid sl15; have hc2_91 := hid sl91; have hc2_92 := hid sl92; have hc2_93 := hid sl93; have hc2_94 := hid sl94; have hc2_95 := hid sl95; have hc2_96 := hid sl96; have hc2_97 := hid sl97; have hc2_98 := hid sl98; have hc2_101 := hid sl101; have hc2_102 := hid sl102; have hc2_103 := hid sl103; have hc2_104 := hid sl104; have hc2_105 := hid sl105; have hc2_106 := hid sl106; have hc2_107 := hid sl107; have hc2_108 := hid sl108; have hc2_109 := hid sl109; have hc2_112 := hid sl112; have hc2_113 := hid sl113; have hc2_114 := hid sl114; have hc2_115 := hid sl115; have hc2_116 := hid sl116; have hc2_117 := hid sl117; have hc2_118 := hid sl118; have hc2_119 := hid sl119; have hc2_120 := hid sl120; have hc2_121 := hid sl121; have hc2_122 := hid sl122
         have hc2_123 := hid sl123; have hc2_124 := hid sl124; have hc2_125 := hid sl125; refine loop_F (n := 181) (fun kJ sJ wJ => ∃ (k : Nat), kJ = fs.length - k ∧ sJ 16 = .bool (hitB fs ev (j : Int) k) ∧ sJ 17 = .int .i64 (k : Int) ∧ sJ 1 = s68 1 ∧ sJ 3 = s68 3 ∧ sJ 5 = s68 5 ∧ sJ 7 = s68 7 ∧ sJ 9 = s68 9 ∧ sJ 10 = s68 10 ∧ sJ 11 = s68 11 ∧ sJ 12 = s68 12 ∧ sJ 13 = s68 13 ∧ sJ 15 = s68 15 ∧ sJ 91 = s68 91 ∧ sJ 92 = s68 92 ∧ sJ 93 = s68 93 ∧ sJ 94 = s68 94 ∧ sJ 95 = s68 95 ∧ sJ 96 = s68 96 ∧ sJ 97 = s68 97 ∧ sJ 98 = s68 98 ∧ sJ 101 = s68 101 ∧ sJ 102 = s68 102 ∧ sJ 103 = s68 103 ∧ sJ 104 = s68 104 ∧ sJ 105 = s68 105 ∧ sJ 106 = s68 106 ∧ sJ 107 = s68 107 ∧ sJ 108 = s68 108 ∧ sJ 109 = s68 109 ∧ sJ 112 = s68 112 ∧ sJ 113 = s68 113 ∧ sJ 114 = s68 114 ∧ sJ 115 = s68 115 ∧ sJ 116 = s68 116 ∧ sJ 117 = s68 117 ∧ sJ 118 = s68 118 ∧ sJ 119 = s68 119 ∧ sJ 120 = s68 120 ∧ sJ 121 = s68 121 ∧ sJ 122 = s68 122 ∧ sJ 123 = s68 123 ∧ sJ 124 = s68 124 ∧ sJ 125 = s68 125 ∧ OldB [] w64 wJ ∧ k ≤ fs.length) ⟨0, rfl, (by rw [sl16]; rfl), (by first | exact sl17 | (rw [sl17]; go_num) | (rw [sl17]; rfl)), rfl, rfl, rfl, rfl, rfl, rfl, rfl, rfl, rfl, rfl, rfl, rfl, rfl, rfl, rfl, rfl, rfl, rfl, rfl, rfl, rfl, rfl, rfl, rfl, rfl, rfl, rfl, rfl, rfl, rfl, rfl, rfl, rfl, rfl, rfl, rfl, rfl, rfl, rfl, rfl, rfl, OldB.refl _ _, Nat.zero_le _⟩ ?_
         clear sl16 sl17; rintro kJ s69 w70 ⟨k, rfl, sl16, sl17, e1, e3, e5, e7, e9, e10, e11, e12, e13, e15, e91, e92, e93, e94, e95, e96, e97, e98, e101, e102, e103, e104, e105, e106, e107, e108, e109, e112, e113, e114, e115, e116, e117, e118, e119, e120, e121, e122, e123, e124, e125, hb71, hkl⟩; replace sl1 := e1.trans sl1; clear e1; replace sl3 := e3.trans sl3; clear e3; replace sl5 := e5.trans sl5; clear e5; replace sl7 := e7.trans sl7; clear e7; replace sl9 := e9.trans sl9; clear e9; replace sl10 := e10.trans sl10; clear e10; replace sl11 := e11.trans sl11; clear e11; replace sl12 := e12.trans sl12; clear e12; replace sl13 := e13.trans sl13; clear e13; replace sl15 := e15.trans sl15; clear e15; replace sl91 := e91.trans sl91; clear e91; replace sl92 := e92.trans sl92; clear e92; replace sl93 := e93.trans sl93; clear e93; replace sl94 := e94.trans sl94; clear e94; replace sl95 := e95.trans sl95; clear e95; replace sl96 := e96.trans sl96; clear e96
         replace sl97 := e97.trans sl97; clear e97; replace sl98 := e98.trans sl98; clear e98; replace sl101 := e101.trans sl101; clear e101; replace sl102 := e102.trans sl102; clear e102; replace sl103 := e103.trans sl103; clear e103; replace sl104 := e104.trans sl104; clear e104; replace sl105 := e105.trans sl105; clear e105; replace sl106 := e106.trans sl106; clear e106; replace sl107 := e107.trans sl107; clear e107; replace sl108 := e108.trans sl108; clear e108; replace sl109 := e109.trans sl109; clear e109; replace sl112 := e112.trans sl112; clear e112; replace sl113 := e113.trans sl113; clear e113; replace sl114 := e114.trans sl114; clear e114; replace sl115 := e115.trans sl115; clear e115; replace sl116 := e116.trans sl116; clear e116; replace sl117 := e117.trans sl117; clear e117; replace sl118 := e118.trans sl118; clear e118; replace sl119 := e119.trans sl119; clear e119; replace sl120 := e120.trans sl120; clear e120; replace sl121 := e121.trans sl121; clear e121
         replace sl122 := e122.trans sl122; clear e122; replace sl123 := e123.trans sl123; clear e123; replace sl124 := e124.trans sl124; clear e124; replace sl125 := e125.trans sl125; clear e125; have hoJ := hb71; clear qb3 qb5 qb8; replace hr13 := Rd.oldB hr13 hb71 (by simp); revert HB; revert HL62; revert HL35; revert kb8; revert kb5; revert kb3; refine uO hb71 ?_; clear hb71; intro kb3 qb3 kb5 qb5 kb8 qb8 HL35 HL62 HB; have HoJ := hid hoJ; clear hoJ; have HL72 := HoJ; clear HoJ
         refine nr ?_; intros
         refine P4 ?_
         refine lsa fun s73 z' => ?_; replace sl1 := slg z' sl1; replace sl3 := slg z' sl3; replace sl5 := slg z' sl5; replace sl7 := slg z' sl7; replace sl9 := slg z' sl9; replace sl10 := slg z' sl10; replace sl11 := slg z' sl11; replace sl12 := slg z' sl12; replace sl13 := slg z' sl13; replace sl15 := slg z' sl15; replace sl16 := slg z' sl16; replace sl17 := slg z' sl17; replace sl91 := slg z' sl91; replace sl92 := slg z' sl92; replace sl93 := slg z' sl93; replace sl94 := slg z' sl94; replace sl95 := slg z' sl95; replace sl96 := slg z' sl96; replace sl97 := slg z' sl97; replace sl98 := slg z' sl98; replace sl101 := slg z' sl101; replace sl102 := slg z' sl102; replace sl103 := slg z' sl103; replace sl104 := slg z' sl104; replace sl105 := slg z' sl105; replace sl106 := slg z' sl106; replace sl107 := slg z' sl107; replace sl108 := slg z' sl108; replace sl109 := slg z' sl109; replace sl112 := slg z' sl112
         replace sl113 := slg z' sl113; replace sl114 := slg z' sl114; replace sl115 := slg z' sl115; replace sl116 := slg z' sl116; replace sl117 := slg z' sl117; replace sl118 := slg z' sl118; replace sl119 := slg z' sl119; replace sl120 := slg z' sl120; replace sl121 := slg z' sl121; replace sl122 := slg z' sl122; replace sl123 := slg z' sl123; replace sl124 := slg z' sl124; replace sl125 := slg z' sl125; have sl130 := gu 130 z'; clear z'; refine ln ?_; intros
         refine cond_E sl130 (by decide) ?_ ?_ <;> (clear sl130; intro h130 sl130)
         ·skip
          have hk : k < fs.length := by simpa using h130
          have hkk : (k : Int) < fs.length := by omega
          obtain ⟨bf, of, haf, hbf, d0, d1, d2⟩ := RdFl.ne (Rd.oldB HF.out HB.out (by simp)) hk; subst haf; obtain ⟨y, hy⟩ : ∃ y, fs[k] = y := ⟨_, rfl⟩; rw [hy] at d0 d1 d2; have Hy := hid hy; have hyd := (Hfo.out y (by rw [← hy]; exact List.getElem_mem hk)).1; have hyt := tdiv_bd (b := ev) hyd.1; have wyd : IntKind.i64.wrap (y.done.tdiv (ev : Int)) = y.done.tdiv (ev : Int) := IntWalk.i64_in _ (by omega)
          have hez : ¬ (ev : Int) = 0 := by omega
          have hez2 : ¬ ev = 0 := by omega
          clear hy
          refine zx ?_; intros
          by_cases hin : hitB fs ev (j : Int) k = true
          ·skip
           rw [hin] at sl16; have cb3 := clx kb3; have cb5 := clx kb5; have cb8 := clx kb8; refine regionR_F [] [] [] [.q [], .q [], .no, .no, .no, .no, .no, .no, .no, .no, .no, .no, .no, .no, .q []] [?v23_0, ?v23_1, fun _ => undef, fun _ => undef, fun _ => undef, fun _ => undef, fun _ => undef, fun _ => undef, fun _ => undef, fun _ => undef, fun _ => undef, fun _ => undef, fun _ => undef, fun _ => undef, ?v23_14] [fun _ => [], fun _ => [], fun _ => [], fun _ => [], fun _ => [], fun _ => [], fun _ => [], fun _ => [], fun _ => [], fun _ => [], fun _ => [], fun _ => [], fun _ => [], fun _ => [], fun _ => []] (by kernel_rfl) (by kernel_rfl) (by kernel_rfl) (by kernel_rfl) (by kernel_rfl) XV8b bc_nil ?walk23 ?dep23
           case walk23 =>
            refine rq ?_; refine rq ?_; refine XV8f ?_ ?_
            · go_simp
            refine XV8f ?_ ?_
            · go_simp
            refine XV8f ?_ ?_
            · go_simp
            refine XV8f ?_ ?_
            · go_simp
            refine XV8f ?_ ?_
            · go_simp
            refine XV8f ?_ ?_
            · go_simp
            refine XV8f ?_ ?_
            · go_simp
            refine XV8f ?_ ?_
            · go_simp
            refine XV8f ?_ ?_
            · go_simp
            refine XV8f ?_ ?_
            · go_simp
            refine XV8f ?_ ?_
            · go_simp
            refine XV8f ?_ ?_
            · go_simp
            refine rq ?_; refine walkR_nil (fun X hX w74 hwz hcz => ?_); clear hX hcz
            (try clear X)
            skip; have hb75 := hwz.unDrew; clear hwz; clear cb3 cb5 cb8; clear qb3 qb5 qb8; replace hr13 := Rd.oldB hr13 hb75 (by simp); revert HB; revert HL72; revert HL62; revert HL35; revert kb8; revert kb5; revert kb3; refine uO hb75 ?_; clear hb75; intro kb3 qb3 kb5 qb5 kb8 qb8 HL35 HL62 HL72 HB; refine pl ?_; refine lsa fun s76 z' => ?_; replace sl1 := slg z' sl1; replace sl3 := slg z' sl3; replace sl5 := slg z' sl5; replace sl7 := slg z' sl7; replace sl9 := slg z' sl9; replace sl10 := slg z' sl10
            replace sl11 := slg z' sl11; replace sl12 := slg z' sl12; replace sl13 := slg z' sl13; replace sl15 := slg z' sl15; replace sl16 := gu 16 z'; replace sl17 := slg z' sl17; replace sl91 := slg z' sl91; replace sl92 := slg z' sl92; replace sl93 := slg z' sl93; replace sl94 := slg z' sl94; replace sl95 := slg z' sl95; replace sl96 := slg z' sl96; replace sl97 := slg z' sl97; replace sl98 := slg z' sl98; replace sl101 := slg z' sl101; replace sl102 := slg z' sl102; replace sl103 := slg z' sl103; replace sl104 := slg z' sl104; replace sl105 := slg z' sl105; replace sl106 := slg z' sl106; replace sl107 := slg z' sl107; replace sl108 := slg z' sl108; replace sl109 := slg z' sl109; replace sl112 := slg z' sl112; replace sl113 := slg z' sl113; replace sl114 := slg z' sl114; replace sl115 := slg z' sl115; replace sl116 := slg z' sl116; replace sl117 := slg z' sl117; replace sl118 := slg z' sl118
            replace sl119 := slg z' sl119; replace sl120 := slg z' sl120; replace sl121 := slg z' sl121; replace sl122 := slg z' sl122; replace sl123 := slg z' sl123; replace sl124 := slg z' sl124; replace sl125 := slg z' sl125; have sl135 := gu 135 z'; have sl136 := gu 136 z'; have sl137 := gu 137 z'; have sl138 := gu 138 z'; have sl139 := gu 139 z'; have sl140 := gu 140 z'; have sl141 := gu 141 z'; have sl142 := gu 142 z'; have sl143 := gu 143 z'; have sl144 := gu 144 z'; have sl145 := gu 145 z'; have sl146 := gu 146 z'; clear z' sl130; refine lr ?_; intros
            refine P3 ?_
            refine lsa fun s77 z' => ?_; replace sl1 := slg z' sl1; replace sl3 := slg z' sl3; replace sl5 := slg z' sl5; replace sl7 := slg z' sl7; replace sl9 := slg z' sl9; replace sl10 := slg z' sl10; replace sl11 := slg z' sl11; replace sl12 := slg z' sl12; replace sl13 := slg z' sl13; replace sl15 := slg z' sl15; replace sl16 := slg z' sl16; replace sl17 := gu 17 z'; replace sl91 := slg z' sl91; replace sl92 := slg z' sl92; replace sl93 := slg z' sl93; replace sl94 := slg z' sl94; replace sl95 := slg z' sl95; replace sl96 := slg z' sl96; replace sl97 := slg z' sl97; replace sl98 := slg z' sl98; replace sl101 := slg z' sl101; replace sl102 := slg z' sl102; replace sl103 := slg z' sl103; replace sl104 := slg z' sl104; replace sl105 := slg z' sl105; replace sl106 := slg z' sl106; replace sl107 := slg z' sl107; replace sl108 := slg z' sl108; replace sl109 := slg z' sl109; replace sl112 := slg z' sl112
            replace sl113 := slg z' sl113; replace sl114 := slg z' sl114; replace sl115 := slg z' sl115; replace sl116 := slg z' sl116; replace sl117 := slg z' sl117; replace sl118 := slg z' sl118; replace sl119 := slg z' sl119; replace sl120 := slg z' sl120; replace sl121 := slg z' sl121; replace sl122 := slg z' sl122; replace sl123 := slg z' sl123; replace sl124 := slg z' sl124; replace sl125 := slg z' sl125; replace sl135 := slg z' sl135; replace sl136 := slg z' sl136; replace sl137 := slg z' sl137; replace sl138 := slg z' sl138; replace sl139 := slg z' sl139; replace sl140 := slg z' sl140; replace sl141 := slg z' sl141; replace sl142 := slg z' sl142; replace sl143 := slg z' sl143; replace sl144 := slg z' sl144; replace sl145 := slg z' sl145; replace sl146 := slg z' sl146; clear z'; refine ln ?_; intros
            refine ⟨_, _, rfl, ?_, k + 1, rfl, (by rw [sl16, hitB_next hk Hy.out, hin, Bool.true_or]), (rL sl17), (sl1.trans hc2_1.out.symm), (sl3.trans hc2_3.out.symm), (sl5.trans hc2_5.out.symm), (sl7.trans hc2_7.out.symm), (sl9.trans hc2_9.out.symm), (sl10.trans hc2_10.out.symm), (sl11.trans hc2_11.out.symm), (sl12.trans hc2_12.out.symm), (sl13.trans hc2_13.out.symm), (sl15.trans hc2_15.out.symm), (sl91.trans hc2_91.out.symm), (sl92.trans hc2_92.out.symm), (sl93.trans hc2_93.out.symm), (sl94.trans hc2_94.out.symm), (sl95.trans hc2_95.out.symm), (sl96.trans hc2_96.out.symm), (sl97.trans hc2_97.out.symm), (sl98.trans hc2_98.out.symm), (sl101.trans hc2_101.out.symm), (sl102.trans hc2_102.out.symm), (sl103.trans hc2_103.out.symm), (sl104.trans hc2_104.out.symm), (sl105.trans hc2_105.out.symm), (sl106.trans hc2_106.out.symm), (sl107.trans hc2_107.out.symm), (sl108.trans hc2_108.out.symm), (sl109.trans hc2_109.out.symm), (sl112.trans hc2_112.out.symm), (sl113.trans hc2_113.out.symm), (sl114.trans hc2_114.out.symm), (sl115.trans hc2_115.out.symm), (sl116.trans hc2_116.out.symm), (sl117.trans hc2_117.out.symm), (sl118.trans hc2_118.out.symm), (sl119.trans hc2_119.out.symm), (sl120.trans hc2_120.out.symm), (sl121.trans hc2_121.out.symm), (sl122.trans hc2_122.out.symm), (sl123.trans hc2_123.out.symm), (sl124.trans hc2_124.out.symm), (sl125.trans hc2_125.out.symm), HL72.out, by omega⟩
            omega
           case dep23 => exact dA
          ·skip
           replace hin : hitB fs ev (j : Int) k = false := by simpa using hin
           rw [hin] at sl16; obtain ⟨b7, o7, ha7, hb7, c0'⟩ := RdInts.ne hr13 hi
           cases Ha13.out.symm.trans ha7
           rw [Hx.out] at c0'; have cb3 := clx kb3; have cb5 := clx kb5; have cb8 := clx kb8; refine rgQ 15 [?_,?_,?_,?_,?_,?_,?_,?_,?_,?_,?_,?_,?_,?_,?_] ?walk24 ?dep24
           case walk24 =>
            refine rq ?_; refine rq ?_
            iterate 12 refine rqy ?_
            refine rq ?_; refine walkR_nil (fun X hX w78 hwz hcz => ?_); clear hX hcz
            (try clear X)
            skip; have hb79 := hwz.unDrew; clear hwz; clear cb3 cb5 cb8; clear qb3 qb5 qb8; replace hr13 := Rd.oldB hr13 hb79 (by simp); revert HB; revert HL72; revert HL62; revert HL35; revert kb8; revert kb5; revert kb3; refine uO hb79 ?_; clear hb79; intro kb3 qb3 kb5 qb5 kb8 qb8 HL35 HL62 HL72 HB; refine pl ?_; refine lsa fun s80 z' => ?_; replace sl1 := slg z' sl1; replace sl3 := slg z' sl3; replace sl5 := slg z' sl5; replace sl7 := slg z' sl7; replace sl9 := slg z' sl9; replace sl10 := slg z' sl10
            replace sl11 := slg z' sl11; replace sl12 := slg z' sl12; replace sl13 := slg z' sl13; replace sl15 := slg z' sl15; replace sl16 := gu 16 z'; replace sl17 := slg z' sl17; replace sl91 := slg z' sl91; replace sl92 := slg z' sl92; replace sl93 := slg z' sl93; replace sl94 := slg z' sl94; replace sl95 := slg z' sl95; replace sl96 := slg z' sl96; replace sl97 := slg z' sl97; replace sl98 := slg z' sl98; replace sl101 := slg z' sl101; replace sl102 := slg z' sl102; replace sl103 := slg z' sl103; replace sl104 := slg z' sl104; replace sl105 := slg z' sl105; replace sl106 := slg z' sl106; replace sl107 := slg z' sl107; replace sl108 := slg z' sl108; replace sl109 := slg z' sl109; replace sl112 := slg z' sl112; replace sl113 := slg z' sl113; replace sl114 := slg z' sl114; replace sl115 := slg z' sl115; replace sl116 := slg z' sl116; replace sl117 := slg z' sl117; replace sl118 := slg z' sl118
            replace sl119 := slg z' sl119; replace sl120 := slg z' sl120; replace sl121 := slg z' sl121; replace sl122 := slg z' sl122; replace sl123 := slg z' sl123; replace sl124 := slg z' sl124; replace sl125 := slg z' sl125; have sl135 := gu 135 z'; have sl136 := gu 136 z'; have sl137 := gu 137 z'; have sl138 := gu 138 z'; have sl139 := gu 139 z'; have sl140 := gu 140 z'; have sl141 := gu 141 z'; have sl142 := gu 142 z'; have sl143 := gu 143 z'; have sl144 := gu 144 z'; have sl145 := gu 145 z'; have sl146 := gu 146 z'; clear z' sl130; refine lr ?_; intros
            refine P3 ?_
            refine lsa fun s81 z' => ?_; replace sl1 := slg z' sl1; replace sl3 := slg z' sl3; replace sl5 := slg z' sl5; replace sl7 := slg z' sl7; replace sl9 := slg z' sl9; replace sl10 := slg z' sl10; replace sl11 := slg z' sl11; replace sl12 := slg z' sl12; replace sl13 := slg z' sl13; replace sl15 := slg z' sl15; replace sl16 := slg z' sl16; replace sl17 := gu 17 z'; replace sl91 := slg z' sl91; replace sl92 := slg z' sl92; replace sl93 := slg z' sl93; replace sl94 := slg z' sl94; replace sl95 := slg z' sl95; replace sl96 := slg z' sl96; replace sl97 := slg z' sl97; replace sl98 := slg z' sl98; replace sl101 := slg z' sl101; replace sl102 := slg z' sl102; replace sl103 := slg z' sl103; replace sl104 := slg z' sl104; replace sl105 := slg z' sl105; replace sl106 := slg z' sl106; replace sl107 := slg z' sl107; replace sl108 := slg z' sl108; replace sl109 := slg z' sl109; replace sl112 := slg z' sl112
            replace sl113 := slg z' sl113; replace sl114 := slg z' sl114; replace sl115 := slg z' sl115; replace sl116 := slg z' sl116; replace sl117 := slg z' sl117; replace sl118 := slg z' sl118; replace sl119 := slg z' sl119; replace sl120 := slg z' sl120; replace sl121 := slg z' sl121; replace sl122 := slg z' sl122; replace sl123 := slg z' sl123; replace sl124 := slg z' sl124; replace sl125 := slg z' sl125; replace sl135 := slg z' sl135; replace sl136 := slg z' sl136; replace sl137 := slg z' sl137; replace sl138 := slg z' sl138; replace sl139 := slg z' sl139; replace sl140 := slg z' sl140; replace sl141 := slg z' sl141; replace sl142 := slg z' sl142; replace sl143 := slg z' sl143; replace sl144 := slg z' sl144; replace sl145 := slg z' sl145; replace sl146 := slg z' sl146; clear z'; refine ln ?_; intros
            refine ⟨_, _, rfl, ?_, k + 1, rfl, (by rw [sl16, hitB_next hk Hy.out, hin, Bool.false_or]; first | done | (congr 1; done) | (congr 1; rw [Bool.eq_iff_iff]; simp)), (rL sl17), (sl1.trans hc2_1.out.symm), (sl3.trans hc2_3.out.symm), (sl5.trans hc2_5.out.symm), (sl7.trans hc2_7.out.symm), (sl9.trans hc2_9.out.symm), (sl10.trans hc2_10.out.symm), (sl11.trans hc2_11.out.symm), (sl12.trans hc2_12.out.symm), (sl13.trans hc2_13.out.symm), (sl15.trans hc2_15.out.symm), (sl91.trans hc2_91.out.symm), (sl92.trans hc2_92.out.symm), (sl93.trans hc2_93.out.symm), (sl94.trans hc2_94.out.symm), (sl95.trans hc2_95.out.symm), (sl96.trans hc2_96.out.symm), (sl97.trans hc2_97.out.symm), (sl98.trans hc2_98.out.symm), (sl101.trans hc2_101.out.symm), (sl102.trans hc2_102.out.symm), (sl103.trans hc2_103.out.symm), (sl104.trans hc2_104.out.symm), (sl105.trans hc2_105.out.symm), (sl106.trans hc2_106.out.symm), (sl107.trans hc2_107.out.symm), (sl108.trans hc2_108.out.symm), (sl109.trans hc2_109.out.symm), (sl112.trans hc2_112.out.symm), (sl113.trans hc2_113.out.symm), (sl114.trans hc2_114.out.symm), (sl115.trans hc2_115.out.symm), (sl116.trans hc2_116.out.symm), (sl117.trans hc2_117.out.symm), (sl118.trans hc2_118.out.symm), (sl119.trans hc2_119.out.symm), (sl120.trans hc2_120.out.symm), (sl121.trans hc2_121.out.symm), (sl122.trans hc2_122.out.symm), (sl123.trans hc2_123.out.symm), (sl124.trans hc2_124.out.symm), (sl125.trans hc2_125.out.symm), HL72.out, by omega⟩
            omega
           case dep24 => exact dA
         ·skip
          have hk : k = fs.length := by have h := h130; simp at h; omega
          rw [hk, hitB_all Hjf.out] at sl16
          refine zx ?_; intros
          clear HL72; clear hc2_1 hc2_3 hc2_5 hc2_7 hc2_9 hc2_10 hc2_11 hc2_12 hc2_13 hc2_15 hc2_91 hc2_92 hc2_93 hc2_94 hc2_95 hc2_96 hc2_97 hc2_98 hc2_101 hc2_102 hc2_103 hc2_104 hc2_105 hc2_106 hc2_107 hc2_108 hc2_109 hc2_112 hc2_113 hc2_114 hc2_115 hc2_116 hc2_117 hc2_118 hc2_119 hc2_120 hc2_121 hc2_122 hc2_123 hc2_124 hc2_125; refine region_F ?_; refine P2 ?_; refine lsa fun s82 z' => ?_; replace sl1 := slg z' sl1; replace sl3 := slg z' sl3; replace sl5 := slg z' sl5; replace sl7 := slg z' sl7; replace sl9 := slg z' sl9; replace sl10 := slg z' sl10; replace sl11 := slg z' sl11; replace sl12 := slg z' sl12; replace sl13 := slg z' sl13; replace sl15 := slg z' sl15; replace sl91 := slg z' sl91; replace sl92 := slg z' sl92; replace sl93 := slg z' sl93; replace sl94 := slg z' sl94; replace sl95 := slg z' sl95; replace sl96 := slg z' sl96; replace sl97 := slg z' sl97; replace sl98 := slg z' sl98
          replace sl101 := slg z' sl101; replace sl102 := slg z' sl102; replace sl103 := slg z' sl103; replace sl104 := slg z' sl104; replace sl105 := slg z' sl105; replace sl106 := slg z' sl106; replace sl107 := slg z' sl107; replace sl108 := slg z' sl108; replace sl109 := slg z' sl109; replace sl112 := slg z' sl112; replace sl113 := slg z' sl113; replace sl114 := slg z' sl114; replace sl115 := slg z' sl115; replace sl116 := slg z' sl116; replace sl117 := slg z' sl117; replace sl118 := slg z' sl118; replace sl119 := slg z' sl119; replace sl120 := slg z' sl120; replace sl121 := slg z' sl121; replace sl122 := slg z' sl122; replace sl123 := slg z' sl123; replace sl124 := slg z' sl124; replace sl125 := slg z' sl125; have sl149 := gu 149 z'; clear z' sl16 sl17 sl130; refine ln ?_; intros
          refine cond_f ?_
          refine nr ?_; intros
          refine P3 ?_
          refine lsa fun s83 z' => ?_; replace sl1 := slg z' sl1; replace sl3 := slg z' sl3; replace sl5 := slg z' sl5; replace sl7 := slg z' sl7; replace sl9 := slg z' sl9; replace sl10 := slg z' sl10; replace sl11 := slg z' sl11; replace sl12 := slg z' sl12; replace sl13 := slg z' sl13; replace sl15 := gu 15 z'; replace sl91 := slg z' sl91; replace sl92 := slg z' sl92; replace sl93 := slg z' sl93; replace sl94 := slg z' sl94; replace sl95 := slg z' sl95; replace sl96 := slg z' sl96; replace sl97 := slg z' sl97; replace sl98 := slg z' sl98; replace sl101 := slg z' sl101; replace sl102 := slg z' sl102; replace sl103 := slg z' sl103; replace sl104 := slg z' sl104; replace sl105 := slg z' sl105; replace sl106 := slg z' sl106; replace sl107 := slg z' sl107; replace sl108 := slg z' sl108; replace sl109 := slg z' sl109; replace sl112 := slg z' sl112; replace sl113 := slg z' sl113; replace sl114 := slg z' sl114
          replace sl115 := slg z' sl115; replace sl116 := slg z' sl116; replace sl117 := slg z' sl117; replace sl118 := slg z' sl118; replace sl119 := slg z' sl119; replace sl120 := slg z' sl120; replace sl121 := slg z' sl121; replace sl122 := slg z' sl122; replace sl123 := slg z' sl123; replace sl124 := slg z' sl124; replace sl125 := slg z' sl125; clear z' sl149; refine ln ?_; intros
          rw [← Ha13.out] at sl13; refine ⟨_, _, rfl, ?_, i + 1, rfl, (rL sl15), (sl1.trans hc1_1.out.symm), (sl3.trans hc1_3.out.symm), (sl5.trans hc1_5.out.symm), (sl7.trans hc1_7.out.symm), (sl9.trans hc1_9.out.symm), (sl10.trans hc1_10.out.symm), (sl11.trans hc1_11.out.symm), (sl12.trans hc1_12.out.symm), (sl13.trans hc1_13.out.symm), HL62.out, by omega⟩
          omega
        case dep22 => exact dA
       ·skip
        have cb3 := clx kb3; have cb5 := clx kb5; have cb8 := clx kb8; refine regionR_F [] [] [] [.q [], .q [], .q [], .q [], .q [], .q [], .q [], .q [], .q [], .q [], .q [], .q [], .q [], .q [], .q [], .q [], .q [], .q [], .q [], .q [], .q [], .q [], .q [], .q [], .q [], .q [], .q [], .q [], .q [], .q [], .no, .no, .no, .no, .no, .no, .no, .no, .no, .no, .q [], .q []] [?v25_0, ?v25_1, ?v25_2, ?v25_3, ?v25_4, ?v25_5, ?v25_6, ?v25_7, ?v25_8, ?v25_9, ?v25_10, ?v25_11, ?v25_12, ?v25_13, ?v25_14, ?v25_15, ?v25_16, ?v25_17, ?v25_18, ?v25_19, ?v25_20, ?v25_21, ?v25_22, ?v25_23, ?v25_24, ?v25_25, ?v25_26, ?v25_27, ?v25_28, ?v25_29, fun _ => undef, fun _ => undef, fun _ => undef, fun _ => undef, fun _ => undef, fun _ => undef, fun _ => undef, fun _ => undef, fun _ => undef, fun _ => undef, ?v25_40, ?v25_41] [fun _ => [], fun _ => [], fun _ => [], fun _ => [], fun _ => [], fun _ => [], fun _ => [], fun _ => [], fun _ => [], fun _ => [], fun _ => [], fun _ => [], fun _ => [], fun _ => [], fun _ => [], fun _ => [], fun _ => [], fun _ => [], fun _ => [], fun _ => [], fun _ => [], fun _ => [], fun _ => [], fun _ => [], fun _ => [], fun _ => [], fun _ => [], fun _ => [], fun _ => [], fun _ => [], fun _ => [], fun _ => [], fun _ => [], fun _ => [], fun _ => [], fun _ => [], fun _ => [], fun _ => [], fun _ => [], fun _ => [], fun _ => [], fun _ => []] (by kernel_rfl) (by kernel_rfl) (by kernel_rfl) (by kernel_rfl) (by kernel_rfl) XV8b bc_nil ?walk25 ?dep25
        case walk25 =>
         iterate 6 refine rq ?_
         iterate 8 refine rqy ?_
         refine rq ?_; refine rq ?_
         iterate 9 refine rqy ?_
         refine rq ?_; refine rq ?_
         iterate 3 refine rqy ?_
         refine XV8g ?_ ?_
         · go_simp
         refine XV8g ?_ ?_
         · go_simp
         refine XV8g ?_ ?_
         · go_simp
         refine XV8g ?_ ?_
         · go_simp
         refine XV8g ?_ ?_
         · go_simp
         refine XV8g ?_ ?_
         · go_simp
         refine XV8g ?_ ?_
         · go_simp
         refine XV8g ?_ ?_
         · go_simp
         refine XV8g ?_ ?_
         · go_simp
         refine XV8g ?_ ?_
         · go_simp
         refine rqy ?_; refine rq ?_; refine walkR_nil (fun X hX w84 hwz hcz => ?_); clear hX hcz
         (try clear X)
         skip; have hb85 := hwz.unDrew; clear hwz; clear cb3 cb5 cb8; clear qb3 qb5 qb8; replace hr13 := Rd.oldB hr13 hb85 (by simp); revert HB; revert HL62; revert HL35; revert kb8; revert kb5; revert kb3; refine uO hb85 ?_; clear hb85; intro kb3 qb3 kb5 qb5 kb8 qb8 HL35 HL62 HB; clear sl82; refine XV8e ?_; clear sl1 sl3 sl5 sl7 sl9 sl10 sl11 sl12 sl13 sl15; intro _ sl1 sl3 sl5 sl7 sl9 sl10 sl11 sl12 sl13 sl15 sl91 sl92 sl93 sl94 sl95 sl96 sl97 sl98 sl101 sl102 sl103 sl104 sl105 sl106 sl107 sl108 sl109 sl112 sl113 sl114 sl115 sl116 sl117 sl118 sl119 sl120 sl121 sl122 sl123 sl124 sl125 sl126; refine ln ?_; intros
         refine cond_f ?_
         refine nr ?_; intros; refine pl ?_; refine lsa fun s87 z' => ?_; replace sl1 := slg z' sl1; replace sl3 := slg z' sl3; replace sl5 := slg z' sl5; replace sl7 := slg z' sl7; replace sl9 := slg z' sl9; replace sl10 := slg z' sl10; replace sl11 := slg z' sl11; replace sl12 := slg z' sl12; replace sl13 := slg z' sl13; replace sl15 := slg z' sl15; have sl16 := gu 16 z'; replace sl91 := slg z' sl91; replace sl92 := slg z' sl92; replace sl93 := slg z' sl93; replace sl94 := slg z' sl94; replace sl95 := slg z' sl95; replace sl96 := slg z' sl96; replace sl97 := slg z' sl97; replace sl98 := slg z' sl98; replace sl101 := slg z' sl101; replace sl102 := slg z' sl102; replace sl103 := slg z' sl103; replace sl104 := slg z' sl104; replace sl105 := slg z' sl105; replace sl106 := slg z' sl106; replace sl107 := slg z' sl107; replace sl108 := slg z' sl108; replace sl109 := slg z' sl109; replace sl112 := slg z' sl112; replace sl113 := slg z' sl113
         replace sl114 := slg z' sl114; replace sl115 := slg z' sl115; replace sl116 := slg z' sl116; replace sl117 := slg z' sl117; replace sl118 := slg z' sl118; replace sl119 := slg z' sl119; replace sl120 := slg z' sl120; replace sl121 := slg z' sl121; replace sl122 := slg z' sl122; replace sl123 := slg z' sl123; replace sl124 := slg z' sl124; replace sl125 := slg z' sl125; clear z' sl126; refine lr ?_; intros; refine pl ?_; refine lsa fun s88 z' => ?_; replace sl1 := slg z' sl1; replace sl3 := slg z' sl3; replace sl5 := slg z' sl5; replace sl7 := slg z' sl7; replace sl9 := slg z' sl9; replace sl10 := slg z' sl10; replace sl11 := slg z' sl11; replace sl12 := slg z' sl12; replace sl13 := slg z' sl13; replace sl15 := slg z' sl15; replace sl16 := slg z' sl16; have sl17 := gu 17 z'; replace sl91 := slg z' sl91; replace sl92 := slg z' sl92; replace sl93 := slg z' sl93; replace sl94 := slg z' sl94; replace sl95 := slg z' sl95; replace sl96 := slg z' sl96; replace sl97 := slg z' sl97; replace sl98 := slg z' sl98; replace sl101 := slg z' sl101; replace sl102 := slg z' sl102; replace sl103 := slg z' sl103; replace sl104 := slg z' sl104; replace sl105 := slg z' sl105; replace sl106 := slg z' sl106; replace sl107 := slg z' sl107; replace sl108 := slg z' sl108; replace sl109 := slg z' sl109; replace sl112 := slg z' sl112
         replace sl113 := slg z' sl113; replace sl114 := slg z' sl114; replace sl115 := slg z' sl115; replace sl116 := slg z' sl116; replace sl117 := slg z' sl117; replace sl118 := slg z' sl118; replace sl119 := slg z' sl119; replace sl120 := slg z' sl120; replace sl121 := slg z' sl121; replace sl122 := slg z' sl122; replace sl123 := slg z' sl123; replace sl124 := slg z' sl124; replace sl125 := slg z' sl125; clear z'; refine ln ?_; intros
         have hc2_1 := hid sl1; have hc2_3 := hid sl3; have hc2_5 := hid sl5; have hc2_7 := hid sl7; have hc2_9 := hid sl9; have hc2_10 := hid sl10; have hc2_11 := hid sl11; have hc2_12 := hid sl12; have hc2_13 := hid sl13; have hc2_15 := hid sl15; have hc2_91 := hid sl91; have hc2_92 := hid sl92; have hc2_93 := hid sl93; have hc2_94 := hid sl94; have hc2_95 := hid sl95; have hc2_96 := hid sl96; have hc2_97 := hid sl97; have hc2_98 := hid sl98; have hc2_101 := hid sl101; have hc2_102 := hid sl102; have hc2_103 := hid sl103; have hc2_104 := hid sl104; have hc2_105 := hid sl105; have hc2_106 := hid sl106; have hc2_107 := hid sl107; have hc2_108 := hid sl108; have hc2_109 := hid sl109; have hc2_112 := hid sl112; have hc2_113 := hid sl113; have hc2_114 := hid sl114; have hc2_115 := hid sl115; have hc2_116 := hid sl116; have hc2_117 := hid sl117; have hc2_118 := hid sl118; have hc2_119 := hid sl119; have hc2_120 := hid sl120; have hc2_121 := hid sl121; have hc2_122 := hid sl122
         have hc2_123 := hid sl123; have hc2_124 := hid sl124; have hc2_125 := hid sl125; refine loop_F (n := 181) (fun kJ sJ wJ => ∃ (k : Nat), kJ = fs.length - k ∧ sJ 16 = .bool (hitB fs ev (j : Int) k) ∧ sJ 17 = .int .i64 (k : Int) ∧ sJ 1 = s88 1 ∧ sJ 3 = s88 3 ∧ sJ 5 = s88 5 ∧ sJ 7 = s88 7 ∧ sJ 9 = s88 9 ∧ sJ 10 = s88 10 ∧ sJ 11 = s88 11 ∧ sJ 12 = s88 12 ∧ sJ 13 = s88 13 ∧ sJ 15 = s88 15 ∧ sJ 91 = s88 91 ∧ sJ 92 = s88 92 ∧ sJ 93 = s88 93 ∧ sJ 94 = s88 94 ∧ sJ 95 = s88 95 ∧ sJ 96 = s88 96 ∧ sJ 97 = s88 97 ∧ sJ 98 = s88 98 ∧ sJ 101 = s88 101 ∧ sJ 102 = s88 102 ∧ sJ 103 = s88 103 ∧ sJ 104 = s88 104 ∧ sJ 105 = s88 105 ∧ sJ 106 = s88 106 ∧ sJ 107 = s88 107 ∧ sJ 108 = s88 108 ∧ sJ 109 = s88 109 ∧ sJ 112 = s88 112 ∧ sJ 113 = s88 113 ∧ sJ 114 = s88 114 ∧ sJ 115 = s88 115 ∧ sJ 116 = s88 116 ∧ sJ 117 = s88 117 ∧ sJ 118 = s88 118 ∧ sJ 119 = s88 119 ∧ sJ 120 = s88 120 ∧ sJ 121 = s88 121 ∧ sJ 122 = s88 122 ∧ sJ 123 = s88 123 ∧ sJ 124 = s88 124 ∧ sJ 125 = s88 125 ∧ OldB [] w84 wJ ∧ k ≤ fs.length) ⟨0, rfl, (by rw [sl16]; rfl), (by first | exact sl17 | (rw [sl17]; go_num) | (rw [sl17]; rfl)), rfl, rfl, rfl, rfl, rfl, rfl, rfl, rfl, rfl, rfl, rfl, rfl, rfl, rfl, rfl, rfl, rfl, rfl, rfl, rfl, rfl, rfl, rfl, rfl, rfl, rfl, rfl, rfl, rfl, rfl, rfl, rfl, rfl, rfl, rfl, rfl, rfl, rfl, rfl, rfl, rfl, OldB.refl _ _, Nat.zero_le _⟩ ?_
         clear sl16 sl17; rintro kJ s89 w90 ⟨k, rfl, sl16, sl17, e1, e3, e5, e7, e9, e10, e11, e12, e13, e15, e91, e92, e93, e94, e95, e96, e97, e98, e101, e102, e103, e104, e105, e106, e107, e108, e109, e112, e113, e114, e115, e116, e117, e118, e119, e120, e121, e122, e123, e124, e125, hb91, hkl⟩; replace sl1 := e1.trans sl1; clear e1; replace sl3 := e3.trans sl3; clear e3; replace sl5 := e5.trans sl5; clear e5; replace sl7 := e7.trans sl7; clear e7; replace sl9 := e9.trans sl9; clear e9; replace sl10 := e10.trans sl10; clear e10; replace sl11 := e11.trans sl11; clear e11; replace sl12 := e12.trans sl12; clear e12; replace sl13 := e13.trans sl13; clear e13; replace sl15 := e15.trans sl15; clear e15; replace sl91 := e91.trans sl91; clear e91; replace sl92 := e92.trans sl92; clear e92; replace sl93 := e93.trans sl93; clear e93; replace sl94 := e94.trans sl94; clear e94; replace sl95 := e95.trans sl95; clear e95; replace sl96 := e96.trans sl96; clear e96
         replace sl97 := e97.trans sl97; clear e97; replace sl98 := e98.trans sl98; clear e98; replace sl101 := e101.trans sl101; clear e101; replace sl102 := e102.trans sl102; clear e102; replace sl103 := e103.trans sl103; clear e103; replace sl104 := e104.trans sl104; clear e104; replace sl105 := e105.trans sl105; clear e105; replace sl106 := e106.trans sl106; clear e106; replace sl107 := e107.trans sl107; clear e107; replace sl108 := e108.trans sl108; clear e108; replace sl109 := e109.trans sl109; clear e109; replace sl112 := e112.trans sl112; clear e112; replace sl113 := e113.trans sl113; clear e113; replace sl114 := e114.trans sl114; clear e114; replace sl115 := e115.trans sl115; clear e115; replace sl116 := e116.trans sl116; clear e116; replace sl117 := e117.trans sl117; clear e117; replace sl118 := e118.trans sl118; clear e118; replace sl119 := e119.trans sl119; clear e119; replace sl120 := e120.trans sl120; clear e120; replace sl121 := e121.trans sl121; clear e121
         replace sl122 := e122.trans sl122; clear e122; replace sl123 := e123.trans sl123; clear e123; replace sl124 := e124.trans sl124; clear e124; replace sl125 := e125.trans sl125; clear e125; have hoJ := hb91; clear qb3 qb5 qb8; replace hr13 := Rd.oldB hr13 hb91 (by simp); revert HB; revert HL62; revert HL35; revert kb8; revert kb5; revert kb3; refine uO hb91 ?_; clear hb91; intro kb3 qb3 kb5 qb5 kb8 qb8 HL35 HL62 HB; have HoJ := hid hoJ; clear hoJ; have HL92 := HoJ; clear HoJ
         refine nr ?_; intros
         refine P4 ?_
         refine lsa fun s93 z' => ?_; replace sl1 := slg z' sl1; replace sl3 := slg z' sl3; replace sl5 := slg z' sl5; replace sl7 := slg z' sl7; replace sl9 := slg z' sl9; replace sl10 := slg z' sl10; replace sl11 := slg z' sl11; replace sl12 := slg z' sl12; replace sl13 := slg z' sl13; replace sl15 := slg z' sl15; replace sl16 := slg z' sl16; replace sl17 := slg z' sl17; replace sl91 := slg z' sl91; replace sl92 := slg z' sl92; replace sl93 := slg z' sl93; replace sl94 := slg z' sl94; replace sl95 := slg z' sl95; replace sl96 := slg z' sl96; replace sl97 := slg z' sl97; replace sl98 := slg z' sl98; replace sl101 := slg z' sl101; replace sl102 := slg z' sl102; replace sl103 := slg z' sl103; replace sl104 := slg z' sl104; replace sl105 := slg z' sl105; replace sl106 := slg z' sl106; replace sl107 := slg z' sl107; replace sl108 := slg z' sl108; replace sl109 := slg z' sl109; replace sl112 := slg z' sl112
         replace sl113 := slg z' sl113; replace sl114 := slg z' sl114; replace sl115 := slg z' sl115; replace sl116 := slg z' sl116; replace sl117 := slg z' sl117; replace sl118 := slg z' sl118; replace sl119 := slg z' sl119; replace sl120 := slg z' sl120; replace sl121 := slg z' sl121; replace sl122 := slg z' sl122; replace sl123 := slg z' sl123; replace sl124 := slg z' sl124; replace sl125 := slg z' sl125; have sl130 := gu 130 z'; clear z'; refine ln ?_; intros
         refine cond_E sl130 (by decide) ?_ ?_ <;> (clear sl130; intro h130 sl130)
         ·skip
          have hk : k < fs.length := by simpa using h130
          have hkk : (k : Int) < fs.length := by omega
          obtain ⟨bf, of, haf, hbf, d0, d1, d2⟩ := RdFl.ne (Rd.oldB HF.out HB.out (by simp)) hk; subst haf; obtain ⟨y, hy⟩ : ∃ y, fs[k] = y := ⟨_, rfl⟩; rw [hy] at d0 d1 d2; have Hy := hid hy; have hyd := (Hfo.out y (by rw [← hy]; exact List.getElem_mem hk)).1; have hyt := tdiv_bd (b := ev) hyd.1; have wyd : IntKind.i64.wrap (y.done.tdiv (ev : Int)) = y.done.tdiv (ev : Int) := IntWalk.i64_in _ (by omega)
          have hez : ¬ (ev : Int) = 0 := by omega
          have hez2 : ¬ ev = 0 := by omega
          clear hy
          refine zx ?_; intros
          by_cases hin : hitB fs ev (j : Int) k = true
          ·skip
           rw [hin] at sl16; have cb3 := clx kb3; have cb5 := clx kb5; have cb8 := clx kb8; refine regionR_F [] [] [] [.q [], .q [], .no, .no, .no, .no, .no, .no, .no, .no, .no, .no, .no, .no, .q []] [?v26_0, ?v26_1, fun _ => undef, fun _ => undef, fun _ => undef, fun _ => undef, fun _ => undef, fun _ => undef, fun _ => undef, fun _ => undef, fun _ => undef, fun _ => undef, fun _ => undef, fun _ => undef, ?v26_14] [fun _ => [], fun _ => [], fun _ => [], fun _ => [], fun _ => [], fun _ => [], fun _ => [], fun _ => [], fun _ => [], fun _ => [], fun _ => [], fun _ => [], fun _ => [], fun _ => [], fun _ => []] (by kernel_rfl) (by kernel_rfl) (by kernel_rfl) (by kernel_rfl) (by kernel_rfl) XV8b bc_nil ?walk26 ?dep26
           case walk26 =>
            refine rq ?_; refine rq ?_; refine XV8f ?_ ?_
            · go_simp
            refine XV8f ?_ ?_
            · go_simp
            refine XV8f ?_ ?_
            · go_simp
            refine XV8f ?_ ?_
            · go_simp
            refine XV8f ?_ ?_
            · go_simp
            refine XV8f ?_ ?_
            · go_simp
            refine XV8f ?_ ?_
            · go_simp
            refine XV8f ?_ ?_
            · go_simp
            refine XV8f ?_ ?_
            · go_simp
            refine XV8f ?_ ?_
            · go_simp
            refine XV8f ?_ ?_
            · go_simp
            refine XV8f ?_ ?_
            · go_simp
            refine rq ?_; refine walkR_nil (fun X hX w94 hwz hcz => ?_); clear hX hcz
            (try clear X)
            skip; have hb95 := hwz.unDrew; clear hwz; clear cb3 cb5 cb8; clear qb3 qb5 qb8; replace hr13 := Rd.oldB hr13 hb95 (by simp); revert HB; revert HL92; revert HL62; revert HL35; revert kb8; revert kb5; revert kb3; refine uO hb95 ?_; clear hb95; intro kb3 qb3 kb5 qb5 kb8 qb8 HL35 HL62 HL92 HB; refine pl ?_; refine lsa fun s96 z' => ?_; replace sl1 := slg z' sl1; replace sl3 := slg z' sl3; replace sl5 := slg z' sl5; replace sl7 := slg z' sl7; replace sl9 := slg z' sl9; replace sl10 := slg z' sl10
            replace sl11 := slg z' sl11; replace sl12 := slg z' sl12; replace sl13 := slg z' sl13; replace sl15 := slg z' sl15; replace sl16 := gu 16 z'; replace sl17 := slg z' sl17; replace sl91 := slg z' sl91; replace sl92 := slg z' sl92; replace sl93 := slg z' sl93; replace sl94 := slg z' sl94; replace sl95 := slg z' sl95; replace sl96 := slg z' sl96; replace sl97 := slg z' sl97; replace sl98 := slg z' sl98; replace sl101 := slg z' sl101; replace sl102 := slg z' sl102; replace sl103 := slg z' sl103; replace sl104 := slg z' sl104; replace sl105 := slg z' sl105; replace sl106 := slg z' sl106; replace sl107 := slg z' sl107; replace sl108 := slg z' sl108; replace sl109 := slg z' sl109; replace sl112 := slg z' sl112; replace sl113 := slg z' sl113; replace sl114 := slg z' sl114; replace sl115 := slg z' sl115; replace sl116 := slg z' sl116; replace sl117 := slg z' sl117; replace sl118 := slg z' sl118
            replace sl119 := slg z' sl119; replace sl120 := slg z' sl120; replace sl121 := slg z' sl121; replace sl122 := slg z' sl122; replace sl123 := slg z' sl123; replace sl124 := slg z' sl124; replace sl125 := slg z' sl125; have sl135 := gu 135 z'; have sl136 := gu 136 z'; have sl137 := gu 137 z'; have sl138 := gu 138 z'; have sl139 := gu 139 z'; have sl140 := gu 140 z'; have sl141 := gu 141 z'; have sl142 := gu 142 z'; have sl143 := gu 143 z'; have sl144 := gu 144 z'; have sl145 := gu 145 z'; have sl146 := gu 146 z'; clear z' sl130; refine lr ?_; intros
            refine P3 ?_
            refine lsa fun s97 z' => ?_; replace sl1 := slg z' sl1; replace sl3 := slg z' sl3; replace sl5 := slg z' sl5; replace sl7 := slg z' sl7; replace sl9 := slg z' sl9; replace sl10 := slg z' sl10; replace sl11 := slg z' sl11; replace sl12 := slg z' sl12; replace sl13 := slg z' sl13; replace sl15 := slg z' sl15; replace sl16 := slg z' sl16; replace sl17 := gu 17 z'; replace sl91 := slg z' sl91; replace sl92 := slg z' sl92; replace sl93 := slg z' sl93; replace sl94 := slg z' sl94; replace sl95 := slg z' sl95; replace sl96 := slg z' sl96; replace sl97 := slg z' sl97; replace sl98 := slg z' sl98; replace sl101 := slg z' sl101; replace sl102 := slg z' sl102; replace sl103 := slg z' sl103; replace sl104 := slg z' sl104; replace sl105 := slg z' sl105; replace sl106 := slg z' sl106; replace sl107 := slg z' sl107; replace sl108 := slg z' sl108; replace sl109 := slg z' sl109; replace sl112 := slg z' sl112
            replace sl113 := slg z' sl113; replace sl114 := slg z' sl114; replace sl115 := slg z' sl115; replace sl116 := slg z' sl116; replace sl117 := slg z' sl117; replace sl118 := slg z' sl118; replace sl119 := slg z' sl119; replace sl120 := slg z' sl120; replace sl121 := slg z' sl121; replace sl122 := slg z' sl122; replace sl123 := slg z' sl123; replace sl124 := slg z' sl124; replace sl125 := slg z' sl125; replace sl135 := slg z' sl135; replace sl136 := slg z' sl136; replace sl137 := slg z' sl137; replace sl138 := slg z' sl138; replace sl139 := slg z' sl139; replace sl140 := slg z' sl140; replace sl141 := slg z' sl141; replace sl142 := slg z' sl142; replace sl143 := slg z' sl143; replace sl144 := slg z' sl144; replace sl145 := slg z' sl145; replace sl146 := slg z' sl146; clear z'; refine ln ?_; intros
            refine ⟨_, _, rfl, ?_, k + 1, rfl, (by rw [sl16, hitB_next hk Hy.out, hin, Bool.true_or]), (rL sl17), (sl1.trans hc2_1.out.symm), (sl3.trans hc2_3.out.symm), (sl5.trans hc2_5.out.symm), (sl7.trans hc2_7.out.symm), (sl9.trans hc2_9.out.symm), (sl10.trans hc2_10.out.symm), (sl11.trans hc2_11.out.symm), (sl12.trans hc2_12.out.symm), (sl13.trans hc2_13.out.symm), (sl15.trans hc2_15.out.symm), (sl91.trans hc2_91.out.symm), (sl92.trans hc2_92.out.symm), (sl93.trans hc2_93.out.symm), (sl94.trans hc2_94.out.symm), (sl95.trans hc2_95.out.symm), (sl96.trans hc2_96.out.symm), (sl97.trans hc2_97.out.symm), (sl98.trans hc2_98.out.symm), (sl101.trans hc2_101.out.symm), (sl102.trans hc2_102.out.symm), (sl103.trans hc2_103.out.symm), (sl104.trans hc2_104.out.symm), (sl105.trans hc2_105.out.symm), (sl106.trans hc2_106.out.symm), (sl107.trans hc2_107.out.symm), (sl108.trans hc2_108.out.symm), (sl109.trans hc2_109.out.symm), (sl112.trans hc2_112.out.symm), (sl113.trans hc2_113.out.symm), (sl114.trans hc2_114.out.symm), (sl115.trans hc2_115.out.symm), (sl116.trans hc2_116.out.symm), (sl117.trans hc2_117.out.symm), (sl118.trans hc2_118.out.symm), (sl119.trans hc2_119.out.symm), (sl120.trans hc2_120.out.symm), (sl121.trans hc2_121.out.symm), (sl122.trans hc2_122.out.symm), (sl123.trans hc2_123.out.symm), (sl124.trans hc2_124.out.symm), (sl125.trans hc2_125.out.symm), HL92.out, by omega⟩
            omega
           case dep26 => exact dA
          ·skip
           replace hin : hitB fs ev (j : Int) k = false := by simpa using hin
           rw [hin] at sl16; obtain ⟨b7, o7, ha7, hb7, c0'⟩ := RdInts.ne hr13 hi
           cases Ha13.out.symm.trans ha7
           rw [Hx.out] at c0'; have cb3 := clx kb3; have cb5 := clx kb5; have cb8 := clx kb8; refine rgQ 15 [?_,?_,?_,?_,?_,?_,?_,?_,?_,?_,?_,?_,?_,?_,?_] ?walk27 ?dep27
           case walk27 =>
            refine rq ?_; refine rq ?_
            iterate 12 refine rqy ?_
            refine rq ?_; refine walkR_nil (fun X hX w98 hwz hcz => ?_); clear hX hcz
            (try clear X)
            skip; have hb := hwz.unDrew; clear hwz; clear cb3 cb5 cb8; clear qb3 qb5 qb8; replace hr13 := Rd.oldB hr13 hb (by simp); revert HB; revert HL92; revert HL62; revert HL35; revert kb8; revert kb5; revert kb3; refine uO hb ?_; clear hb; intro kb3 qb3 kb5 qb5 kb8 qb8 HL35 HL62 HL92 HB; refine pl ?_; refine lsa fun s100 z' => ?_; replace sl1 := slg z' sl1; replace sl3 := slg z' sl3; replace sl5 := slg z' sl5; replace sl7 := slg z' sl7; replace sl9 := slg z' sl9; replace sl10 := slg z' sl10
            replace sl11 := slg z' sl11; replace sl12 := slg z' sl12; replace sl13 := slg z' sl13; replace sl15 := slg z' sl15; replace sl16 := gu 16 z'; replace sl17 := slg z' sl17; replace sl91 := slg z' sl91; replace sl92 := slg z' sl92; replace sl93 := slg z' sl93; replace sl94 := slg z' sl94; replace sl95 := slg z' sl95; replace sl96 := slg z' sl96; replace sl97 := slg z' sl97; replace sl98 := slg z' sl98; replace sl101 := slg z' sl101; replace sl102 := slg z' sl102; replace sl103 := slg z' sl103; replace sl104 := slg z' sl104; replace sl105 := slg z' sl105; replace sl106 := slg z' sl106; replace sl107 := slg z' sl107; replace sl108 := slg z' sl108; replace sl109 := slg z' sl109; replace sl112 := slg z' sl112; replace sl113 := slg z' sl113; replace sl114 := slg z' sl114; replace sl115 := slg z' sl115; replace sl116 := slg z' sl116; replace sl117 := slg z' sl117; replace sl118 := slg z' sl118
            replace sl119 := slg z' sl119; replace sl120 := slg z' sl120; replace sl121 := slg z' sl121; replace sl122 := slg z' sl122; replace sl123 := slg z' sl123; replace sl124 := slg z' sl124; replace sl125 := slg z' sl125; have sl135 := gu 135 z'; have sl136 := gu 136 z'; have sl137 := gu 137 z'; have sl138 := gu 138 z'; have sl139 := gu 139 z'; have sl140 := gu 140 z'; have sl141 := gu 141 z'; have sl142 := gu 142 z'; have sl143 := gu 143 z'; have sl144 := gu 144 z'; have sl145 := gu 145 z'; have sl146 := gu 146 z'; clear z' sl130; refine lr ?_; intros
            refine P3 ?_
            refine lsa fun s101 z' => ?_; replace sl1 := slg z' sl1; replace sl3 := slg z' sl3; replace sl5 := slg z' sl5; replace sl7 := slg z' sl7; replace sl9 := slg z' sl9; replace sl10 := slg z' sl10; replace sl11 := slg z' sl11; replace sl12 := slg z' sl12; replace sl13 := slg z' sl13; replace sl15 := slg z' sl15; replace sl16 := slg z' sl16; replace sl17 := gu 17 z'; replace sl91 := slg z' sl91; replace sl92 := slg z' sl92; replace sl93 := slg z' sl93; replace sl94 := slg z' sl94; replace sl95 := slg z' sl95; replace sl96 := slg z' sl96; replace sl97 := slg z' sl97; replace sl98 := slg z' sl98; replace sl101 := slg z' sl101; replace sl102 := slg z' sl102; replace sl103 := slg z' sl103; replace sl104 := slg z' sl104; replace sl105 := slg z' sl105; replace sl106 := slg z' sl106; replace sl107 := slg z' sl107; replace sl108 := slg z' sl108; replace sl109 := slg z' sl109; replace sl112 := slg z' sl112
            replace sl113 := slg z' sl113; replace sl114 := slg z' sl114; replace sl115 := slg z' sl115; replace sl116 := slg z' sl116; replace sl117 := slg z' sl117; replace sl118 := slg z' sl118; replace sl119 := slg z' sl119; replace sl120 := slg z' sl120; replace sl121 := slg z' sl121; replace sl122 := slg z' sl122; replace sl123 := slg z' sl123; replace sl124 := slg z' sl124; replace sl125 := slg z' sl125; replace sl135 := slg z' sl135; replace sl136 := slg z' sl136; replace sl137 := slg z' sl137; replace sl138 := slg z' sl138; replace sl139 := slg z' sl139; replace sl140 := slg z' sl140; replace sl141 := slg z' sl141; replace sl142 := slg z' sl142; replace sl143 := slg z' sl143; replace sl144 := slg z' sl144; replace sl145 := slg z' sl145; replace sl146 := slg z' sl146; clear z'; refine ln ?_; intros
            refine ⟨_, _, rfl, ?_, k + 1, rfl, (by rw [sl16, hitB_next hk Hy.out, hin, Bool.false_or]; first | done | (congr 1; done) | (congr 1; rw [Bool.eq_iff_iff]; simp)), (rL sl17), (sl1.trans hc2_1.out.symm), (sl3.trans hc2_3.out.symm), (sl5.trans hc2_5.out.symm), (sl7.trans hc2_7.out.symm), (sl9.trans hc2_9.out.symm), (sl10.trans hc2_10.out.symm), (sl11.trans hc2_11.out.symm), (sl12.trans hc2_12.out.symm), (sl13.trans hc2_13.out.symm), (sl15.trans hc2_15.out.symm), (sl91.trans hc2_91.out.symm), (sl92.trans hc2_92.out.symm), (sl93.trans hc2_93.out.symm), (sl94.trans hc2_94.out.symm), (sl95.trans hc2_95.out.symm), (sl96.trans hc2_96.out.symm), (sl97.trans hc2_97.out.symm), (sl98.trans hc2_98.out.symm), (sl101.trans hc2_101.out.symm), (sl102.trans hc2_102.out.symm), (sl103.trans hc2_103.out.symm), (sl104.trans hc2_104.out.symm), (sl105.trans hc2_105.out.symm), (sl106.trans hc2_106.out.symm), (sl107.trans hc2_107.out.symm), (sl108.trans hc2_108.out.symm), (sl109.trans hc2_109.out.symm), (sl112.trans hc2_112.out.symm), (sl113.trans hc2_113.out.symm), (sl114.trans hc2_114.out.symm), (sl115.trans hc2_115.out.symm), (sl116.trans hc2_116.out.symm), (sl117.trans hc2_117.out.symm), (sl118.trans hc2_118.out.symm), (sl119.trans hc2_119.out.symm), (sl120.trans hc2_120.out.symm), (sl121.trans hc2_121.out.symm), (sl122.trans hc2_122.out.symm), (sl123.trans hc2_123.out.symm), (sl124.trans hc2_124.out.symm), (sl125.trans hc2_125.out.symm), HL92.out, by omega⟩
            omega
           case dep27 => exact dA
         ·skip
          have hk : k = fs.length := by have h := h130; simp at h; omega
          rw [hk, hitB_all Hjf.out] at sl16
          refine zx ?_; intros
          clear HL92; clear hc2_1 hc2_3 hc2_5 hc2_7 hc2_9 hc2_10 hc2_11 hc2_12 hc2_13 hc2_15 hc2_91 hc2_92 hc2_93 hc2_94 hc2_95 hc2_96 hc2_97 hc2_98 hc2_101 hc2_102 hc2_103 hc2_104 hc2_105 hc2_106 hc2_107 hc2_108 hc2_109 hc2_112 hc2_113 hc2_114 hc2_115 hc2_116 hc2_117 hc2_118 hc2_119 hc2_120 hc2_121 hc2_122 hc2_123 hc2_124 hc2_125; refine region_F ?_; refine P2 ?_; refine lsa fun s102 z' => ?_; replace sl1 := slg z' sl1; replace sl3 := slg z' sl3; replace sl5 := slg z' sl5; replace sl7 := slg z' sl7; replace sl9 := slg z' sl9; replace sl10 := slg z' sl10; replace sl11 := slg z' sl11; replace sl12 := slg z' sl12; replace sl13 := slg z' sl13; replace sl15 := slg z' sl15; replace sl91 := slg z' sl91; replace sl92 := slg z' sl92; replace sl93 := slg z' sl93; replace sl94 := slg z' sl94; replace sl95 := slg z' sl95; replace sl96 := slg z' sl96; replace sl97 := slg z' sl97; replace sl98 := slg z' sl98
          replace sl101 := slg z' sl101; replace sl102 := slg z' sl102; replace sl103 := slg z' sl103; replace sl104 := slg z' sl104; replace sl105 := slg z' sl105; replace sl106 := slg z' sl106; replace sl107 := slg z' sl107; replace sl108 := slg z' sl108; replace sl109 := slg z' sl109; replace sl112 := slg z' sl112; replace sl113 := slg z' sl113; replace sl114 := slg z' sl114; replace sl115 := slg z' sl115; replace sl116 := slg z' sl116; replace sl117 := slg z' sl117; replace sl118 := slg z' sl118; replace sl119 := slg z' sl119; replace sl120 := slg z' sl120; replace sl121 := slg z' sl121; replace sl122 := slg z' sl122; replace sl123 := slg z' sl123; replace sl124 := slg z' sl124; replace sl125 := slg z' sl125; have sl149 := gu 149 z'; clear z' sl16 sl17 sl130; refine ln ?_; intros
          refine cond_f ?_
          refine nr ?_; intros
          refine P3 ?_
          refine lsa fun s103 z' => ?_; replace sl1 := slg z' sl1; replace sl3 := slg z' sl3; replace sl5 := slg z' sl5; replace sl7 := slg z' sl7; replace sl9 := slg z' sl9; replace sl10 := slg z' sl10; replace sl11 := slg z' sl11; replace sl12 := slg z' sl12; replace sl13 := slg z' sl13; replace sl15 := gu 15 z'; replace sl91 := slg z' sl91; replace sl92 := slg z' sl92; replace sl93 := slg z' sl93; replace sl94 := slg z' sl94; replace sl95 := slg z' sl95; replace sl96 := slg z' sl96; replace sl97 := slg z' sl97; replace sl98 := slg z' sl98; replace sl101 := slg z' sl101; replace sl102 := slg z' sl102; replace sl103 := slg z' sl103; replace sl104 := slg z' sl104; replace sl105 := slg z' sl105; replace sl106 := slg z' sl106; replace sl107 := slg z' sl107; replace sl108 := slg z' sl108; replace sl109 := slg z' sl109; replace sl112 := slg z' sl112; replace sl113 := slg z' sl113; replace sl114 := slg z' sl114
          replace sl115 := slg z' sl115; replace sl116 := slg z' sl116; replace sl117 := slg z' sl117; replace sl118 := slg z' sl118; replace sl119 := slg z' sl119; replace sl120 := slg z' sl120; replace sl121 := slg z' sl121; replace sl122 := slg z' sl122; replace sl123 := slg z' sl123; replace sl124 := slg z' sl124; replace sl125 := slg z' sl125; clear z' sl149; refine ln ?_; intros
          rw [← Ha13.out] at sl13; refine ⟨_, _, rfl, ?_, i + 1, rfl, (rL sl15), (sl1.trans hc1_1.out.symm), (sl3.trans hc1_3.out.symm), (sl5.trans hc1_5.out.symm), (sl7.trans hc1_7.out.symm), (sl9.trans hc1_9.out.symm), (sl10.trans hc1_10.out.symm), (sl11.trans hc1_11.out.symm), (sl12.trans hc1_12.out.symm), (sl13.trans hc1_13.out.symm), HL62.out, by omega⟩
          omega
        case dep25 => exact dA
      ·skip
       refine zx ?_; intros
       clear HL62; clear hc1_1 hc1_3 hc1_5 hc1_7 hc1_9 hc1_10 hc1_11 hc1_12 hc1_13; refine region_F ?_
       refine P3 ?_
       clear sl12 sl15 sl82; refine lx [152] ?_; clear sl1 sl3 sl5 sl7 sl9 sl10 sl11 sl13; intro _ sl1 sl3 sl5 sl7 sl9 sl10 sl11 sl13 sl152
       refine boolG sl152 (fun sl152' h152 => ?_) (fun sl152' h152 => ?_) <;> (clear sl152; have sl152 := sl152'; clear sl152')
       ·skip
        have he1 : ev = 1 := by have h := h152; simp at h; omega
        iterate 3 refine py ?_
        refine P2 ?_; clear sl152; refine lx [153,154,155,157] ?_; clear sl1 sl3 sl5 sl7 sl9 sl10 sl11 sl13; intro _ sl1 sl3 sl5 sl7 sl9 sl10 sl11 sl13 sl153 sl154 sl155 sl157
        refine boolG sl157 (fun sl157' h157 => ?_) (fun sl157' h157 => ?_) <;> (clear sl157; have sl157 := sl157'; clear sl157')
        ·skip
         have hL0 : 0 < L.length := by have h := h157; simp at h; omega
         have hL00 : (0 : Int) < L.length := by omega
         obtain ⟨b12, o12, ha12, hb, ce0⟩ := RdInts.ne hr13 hL0; obtain ⟨x0, hx0⟩ : ∃ y, L[0] = y := ⟨_, rfl⟩; rw [hx0] at ce0
         simp only [Nat.add_zero] at ce0
         have Hx0 := hid hx0; have Ha12 := hid ha12; rw [Ha12.out] at sl13; clear hx0 ha12
         iterate 3 refine py ?_
         refine lsa fun s106 z' => ?_; replace sl1 := slg z' sl1; replace sl3 := slg z' sl3; replace sl5 := slg z' sl5; replace sl7 := slg z' sl7; replace sl9 := slg z' sl9; replace sl10 := slg z' sl10; replace sl11 := slg z' sl11; replace sl13 := slg z' sl13; replace sl153 := slg z' sl153; replace sl154 := slg z' sl154; replace sl155 := slg z' sl155; replace sl157 := slg z' sl157; have sl158 := gu 158 z'; have sl159 := gu 159 z'; have sl160 := gu 160 z'; clear z'
         refine boolG sl160 (fun sl160' h160 => ?_) (fun sl160' h160 => ?_) <;> (clear sl160; have sl160 := sl160'; clear sl160')
         ·skip
          have hm : leastT s fs e0 mn t < 0 ∨ x0 < leastT s fs e0 mn t := .inl (by have h := h160; simp at h; omega)
          refine pn true ?_
          refine pn true ?_
          refine pn true ?_; refine pn true ?_; refine pn true ?_; refine py ?_; refine pl ?_; refine lsa fun s107 z' => ?_; replace sl1 := slg z' sl1; replace sl3 := slg z' sl3; replace sl5 := slg z' sl5; replace sl7 := slg z' sl7; replace sl9 := slg z' sl9; replace sl10 := slg z' sl10; replace sl11 := slg z' sl11; replace sl13 := slg z' sl13; replace sl153 := slg z' sl153; replace sl154 := slg z' sl154; replace sl155 := slg z' sl155; replace sl158 := slg z' sl158; replace sl159 := slg z' sl159; replace sl160 := slg z' sl160; have sl166 := gu 166 z'; have sl167 := gu 167 z'; clear z' sl157; refine ln ?_; intros
          have hj108_1 := hid sl1; have hj108_3 := hid sl3; have hj108_5 := hid sl5; have hj108_7 := hid sl7; have hj108_9 := hid sl9; have hj108_11 := hid sl11; have hj108_153 := hid sl153; have hj108_154 := hid sl154; have hj108_155 := hid sl155; have hj108_158 := hid sl158; have hj108_159 := hid sl159; have hj108_160 := hid sl160; have hj108_166 := hid sl166; refine cut_any (fun sJ wJ => sJ 10 = .int .i64 (leastT s fs e0 mn (t + 1)) ∧ sJ 1 = s107 1 ∧ sJ 3 = s107 3 ∧ sJ 5 = s107 5 ∧ sJ 7 = s107 7 ∧ sJ 9 = s107 9 ∧ sJ 11 = s107 11 ∧ sJ 153 = s107 153 ∧ sJ 154 = s107 154 ∧ sJ 155 = s107 155 ∧ sJ 158 = s107 158 ∧ sJ 159 = s107 159 ∧ sJ 160 = s107 160 ∧ sJ 166 = s107 166 ∧ OldB [] w60 wJ) ?_ ?_
          ·skip
           have HL109 := hid (OldB.refl [] w60); refine cond_t ?_
           refine nr ?_; intros
           refine P4 ?_
           refine lsa fun s110 z' => ?_; replace sl1 := slg z' sl1; replace sl3 := slg z' sl3; replace sl5 := slg z' sl5; replace sl7 := slg z' sl7; replace sl9 := slg z' sl9; replace sl10 := gu 10 z'; replace sl11 := slg z' sl11; replace sl153 := slg z' sl153; replace sl154 := slg z' sl154; replace sl155 := slg z' sl155; replace sl158 := slg z' sl158; replace sl159 := slg z' sl159; replace sl160 := slg z' sl160; replace sl166 := slg z' sl166; clear z' sl13 sl167; refine ln ?_; intros
           exact ⟨trv, _, rfl, (by rw [sl10, Hls.out, stepL, if_pos he1, heads_yes hL0 Hx0.out hm]), (sl1.trans hj108_1.out.symm), (sl3.trans hj108_3.out.symm), (sl5.trans hj108_5.out.symm), (sl7.trans hj108_7.out.symm), (sl9.trans hj108_9.out.symm), (sl11.trans hj108_11.out.symm), (sl153.trans hj108_153.out.symm), (sl154.trans hj108_154.out.symm), (sl155.trans hj108_155.out.symm), (sl158.trans hj108_158.out.symm), (sl159.trans hj108_159.out.symm), (sl160.trans hj108_160.out.symm), (sl166.trans hj108_166.out.symm), HL109.out⟩
          ·skip
           clear sl10 sl13 sl167; rintro s111 w112 ⟨sl10, e1, e3, e5, e7, e9, e11, e153, e154, e155, e158, e159, e160, e166, hb⟩; replace sl1 := e1.trans sl1; clear e1 hj108_1; replace sl3 := e3.trans sl3; clear e3 hj108_3; replace sl5 := e5.trans sl5; clear e5 hj108_5; replace sl7 := e7.trans sl7; clear e7 hj108_7; replace sl9 := e9.trans sl9; clear e9 hj108_9; replace sl11 := e11.trans sl11; clear e11 hj108_11; replace sl153 := e153.trans sl153; clear e153 hj108_153; replace sl154 := e154.trans sl154; clear e154 hj108_154; replace sl155 := e155.trans sl155; clear e155 hj108_155; replace sl158 := e158.trans sl158; clear e158 hj108_158; replace sl159 := e159.trans sl159; clear e159 hj108_159; replace sl160 := e160.trans sl160; clear e160 hj108_160; replace sl166 := e166.trans sl166; clear e166 hj108_166; clear qb3 qb5 qb8; replace hr13 := Rd.oldB hr13 hb (by simp); revert HB; revert HL35; revert kb8; revert kb5; revert kb3; refine uO hb ?_; clear hb; intro kb3 qb3 kb5 qb5 kb8 qb8 HL35 HB
           refine nr ?_; intros
           refine P3 ?_
           refine lsa fun s114 z' => ?_; replace sl1 := slg z' sl1; replace sl3 := slg z' sl3; replace sl5 := slg z' sl5; replace sl7 := slg z' sl7; replace sl9 := slg z' sl9; replace sl10 := slg z' sl10; replace sl11 := gu 11 z'; replace sl153 := slg z' sl153; replace sl154 := slg z' sl154; replace sl155 := slg z' sl155; replace sl158 := slg z' sl158; replace sl159 := slg z' sl159; replace sl160 := slg z' sl160; replace sl166 := slg z' sl166; clear z'; refine ln ?_; intros
           refine ⟨_, _, rfl, ?_, t + 1, rfl, (rL sl10), (rL sl11), (sl1.trans hc0_1.out.symm), (sl3.trans hc0_3.out.symm), (sl5.trans hc0_5.out.symm), (sl7.trans hc0_7.out.symm), (sl9.trans hc0_9.out.symm), HL35.out, by omega⟩
           omega
         ·skip
          iterate 6 refine py ?_
          refine pl ?_; refine lsa fun s115 z' => ?_; replace sl1 := slg z' sl1; replace sl3 := slg z' sl3; replace sl5 := slg z' sl5; replace sl7 := slg z' sl7; replace sl9 := slg z' sl9; replace sl10 := slg z' sl10; replace sl11 := slg z' sl11; replace sl13 := slg z' sl13; replace sl153 := slg z' sl153; replace sl154 := slg z' sl154; replace sl155 := slg z' sl155; replace sl158 := slg z' sl158; replace sl159 := slg z' sl159; replace sl160 := slg z' sl160; have sl161 := gu 161 z'; have sl162 := gu 162 z'; have sl163 := gu 163 z'; have sl164 := gu 164 z'; have sl165 := gu 165 z'; have sl166 := gu 166 z'; have sl167 := gu 167 z'; clear z' sl157; refine ln ?_; intros
          have hj116_1 := hid sl1; have hj116_3 := hid sl3; have hj116_5 := hid sl5; have hj116_7 := hid sl7; have hj116_9 := hid sl9; have hj116_11 := hid sl11; have hj116_153 := hid sl153; have hj116_154 := hid sl154; have hj116_155 := hid sl155; have hj116_158 := hid sl158; have hj116_159 := hid sl159; have hj116_160 := hid sl160; have hj116_161 := hid sl161; have hj116_162 := hid sl162; have hj116_163 := hid sl163; have hj116_164 := hid sl164; have hj116_165 := hid sl165; have hj116_166 := hid sl166; refine cut_any (fun sJ wJ => sJ 10 = .int .i64 (leastT s fs e0 mn (t + 1)) ∧ sJ 1 = s115 1 ∧ sJ 3 = s115 3 ∧ sJ 5 = s115 5 ∧ sJ 7 = s115 7 ∧ sJ 9 = s115 9 ∧ sJ 11 = s115 11 ∧ sJ 153 = s115 153 ∧ sJ 154 = s115 154 ∧ sJ 155 = s115 155 ∧ sJ 158 = s115 158 ∧ sJ 159 = s115 159 ∧ sJ 160 = s115 160 ∧ sJ 161 = s115 161 ∧ sJ 162 = s115 162 ∧ sJ 163 = s115 163 ∧ sJ 164 = s115 164 ∧ sJ 165 = s115 165 ∧ sJ 166 = s115 166 ∧ OldB [] w60 wJ) ?_ ?_
          ·skip
           have HL117 := hid (OldB.refl [] w60)
           refine cond_E sl167 (by decide) ?_ ?_ <;> (clear sl167; intro h167 sl167)
           ·skip
            have hm : leastT s fs e0 mn t < 0 ∨ x0 < leastT s fs e0 mn t := .inr (by have h := h167; simp at h; omega)
            refine nr ?_; intros
            refine P4 ?_
            refine lsa fun s118 z' => ?_; replace sl1 := slg z' sl1; replace sl3 := slg z' sl3; replace sl5 := slg z' sl5; replace sl7 := slg z' sl7; replace sl9 := slg z' sl9; replace sl10 := gu 10 z'; replace sl11 := slg z' sl11; replace sl153 := slg z' sl153; replace sl154 := slg z' sl154; replace sl155 := slg z' sl155; replace sl158 := slg z' sl158; replace sl159 := slg z' sl159; replace sl160 := slg z' sl160; replace sl161 := slg z' sl161; replace sl162 := slg z' sl162; replace sl163 := slg z' sl163; replace sl164 := slg z' sl164; replace sl165 := slg z' sl165; replace sl166 := slg z' sl166; clear z' sl13 sl167; refine ln ?_; intros
            exact ⟨trv, _, rfl, (by rw [sl10, Hls.out, stepL, if_pos he1, heads_yes hL0 Hx0.out hm]), (sl1.trans hj116_1.out.symm), (sl3.trans hj116_3.out.symm), (sl5.trans hj116_5.out.symm), (sl7.trans hj116_7.out.symm), (sl9.trans hj116_9.out.symm), (sl11.trans hj116_11.out.symm), (sl153.trans hj116_153.out.symm), (sl154.trans hj116_154.out.symm), (sl155.trans hj116_155.out.symm), (sl158.trans hj116_158.out.symm), (sl159.trans hj116_159.out.symm), (sl160.trans hj116_160.out.symm), (sl161.trans hj116_161.out.symm), (sl162.trans hj116_162.out.symm), (sl163.trans hj116_163.out.symm), (sl164.trans hj116_164.out.symm), (sl165.trans hj116_165.out.symm), (sl166.trans hj116_166.out.symm), HL117.out⟩
           ·skip
            have hm : ¬ (leastT s fs e0 mn t < 0 ∨ x0 < leastT s fs e0 mn t) := by have h := h167; have h2 := h160; simp at h h2; omega
            refine zx ?_; intros
            exact ⟨trv, _, rfl, (by rw [sl10, Hls.out, stepL, if_pos he1, heads_no hL0 Hx0.out hm]), (sl1.trans hj116_1.out.symm), (sl3.trans hj116_3.out.symm), (sl5.trans hj116_5.out.symm), (sl7.trans hj116_7.out.symm), (sl9.trans hj116_9.out.symm), (sl11.trans hj116_11.out.symm), (sl153.trans hj116_153.out.symm), (sl154.trans hj116_154.out.symm), (sl155.trans hj116_155.out.symm), (sl158.trans hj116_158.out.symm), (sl159.trans hj116_159.out.symm), (sl160.trans hj116_160.out.symm), (sl161.trans hj116_161.out.symm), (sl162.trans hj116_162.out.symm), (sl163.trans hj116_163.out.symm), (sl164.trans hj116_164.out.symm), (sl165.trans hj116_165.out.symm), (sl166.trans hj116_166.out.symm), HL117.out⟩
          ·skip
           clear sl10 sl13 sl167; rintro s119 w120 ⟨sl10, e1, e3, e5, e7, e9, e11, e153, e154, e155, e158, e159, e160, e161, e162, e163, e164, e165, e166, hb⟩; replace sl1 := e1.trans sl1; clear e1 hj116_1; replace sl3 := e3.trans sl3; clear e3 hj116_3; replace sl5 := e5.trans sl5; clear e5 hj116_5; replace sl7 := e7.trans sl7; clear e7 hj116_7; replace sl9 := e9.trans sl9; clear e9 hj116_9; replace sl11 := e11.trans sl11; clear e11 hj116_11; replace sl153 := e153.trans sl153; clear e153 hj116_153; replace sl154 := e154.trans sl154; clear e154 hj116_154; replace sl155 := e155.trans sl155; clear e155 hj116_155; replace sl158 := e158.trans sl158; clear e158 hj116_158; replace sl159 := e159.trans sl159; clear e159 hj116_159; replace sl160 := e160.trans sl160; clear e160 hj116_160; replace sl161 := e161.trans sl161; clear e161 hj116_161; replace sl162 := e162.trans sl162; clear e162 hj116_162; replace sl163 := e163.trans sl163; clear e163 hj116_163
           replace sl164 := e164.trans sl164; clear e164 hj116_164; replace sl165 := e165.trans sl165; clear e165 hj116_165; replace sl166 := e166.trans sl166; clear e166 hj116_166; clear qb3 qb5 qb8; replace hr13 := Rd.oldB hr13 hb (by simp); revert HB; revert HL35; revert kb8; revert kb5; revert kb3; refine uO hb ?_; clear hb; intro kb3 qb3 kb5 qb5 kb8 qb8 HL35 HB
           refine nr ?_; intros
           refine P3 ?_
           refine lsa fun s122 z' => ?_; replace sl1 := slg z' sl1; replace sl3 := slg z' sl3; replace sl5 := slg z' sl5; replace sl7 := slg z' sl7; replace sl9 := slg z' sl9; replace sl10 := slg z' sl10; replace sl11 := gu 11 z'; replace sl153 := slg z' sl153; replace sl154 := slg z' sl154; replace sl155 := slg z' sl155; replace sl158 := slg z' sl158; replace sl159 := slg z' sl159; replace sl160 := slg z' sl160; replace sl161 := slg z' sl161; replace sl162 := slg z' sl162; replace sl163 := slg z' sl163; replace sl164 := slg z' sl164; replace sl165 := slg z' sl165; replace sl166 := slg z' sl166; clear z'; refine ln ?_; intros
           refine ⟨_, _, rfl, ?_, t + 1, rfl, (rL sl10), (rL sl11), (sl1.trans hc0_1.out.symm), (sl3.trans hc0_3.out.symm), (sl5.trans hc0_5.out.symm), (sl7.trans hc0_7.out.symm), (sl9.trans hc0_9.out.symm), HL35.out, by omega⟩
           omega
        ·skip
         have hL0 : ¬ 0 < L.length := by have h := h157; simp at h; first | omega | (rw [h]; simp)
         refine F3 ?_
         iterate 5 refine pu ?_
         refine pn false ?_; refine pl ?_; refine lsa fun s123 z' => ?_; replace sl1 := slg z' sl1; replace sl3 := slg z' sl3; replace sl5 := slg z' sl5; replace sl7 := slg z' sl7; replace sl9 := slg z' sl9; replace sl10 := slg z' sl10; replace sl11 := slg z' sl11; replace sl13 := slg z' sl13; replace sl153 := slg z' sl153; replace sl154 := slg z' sl154; replace sl155 := slg z' sl155; have sl167 := gu 167 z'; clear z' sl157; refine ln ?_; intros
         have hj124_1 := hid sl1; have hj124_3 := hid sl3; have hj124_5 := hid sl5; have hj124_7 := hid sl7; have hj124_9 := hid sl9; have hj124_11 := hid sl11; have hj124_153 := hid sl153; have hj124_154 := hid sl154; have hj124_155 := hid sl155; refine cut_any (fun sJ wJ => sJ 10 = .int .i64 (leastT s fs e0 mn (t + 1)) ∧ sJ 1 = s123 1 ∧ sJ 3 = s123 3 ∧ sJ 5 = s123 5 ∧ sJ 7 = s123 7 ∧ sJ 9 = s123 9 ∧ sJ 11 = s123 11 ∧ sJ 153 = s123 153 ∧ sJ 154 = s123 154 ∧ sJ 155 = s123 155 ∧ OldB [] w60 wJ) ?_ ?_
         ·skip
          have HL125 := hid (OldB.refl [] w60); refine cond_f ?_
          refine zx ?_; intros
          exact ⟨trv, _, rfl, (by rw [sl10, Hls.out, stepL, if_pos he1, heads_nil hL0]), (sl1.trans hj124_1.out.symm), (sl3.trans hj124_3.out.symm), (sl5.trans hj124_5.out.symm), (sl7.trans hj124_7.out.symm), (sl9.trans hj124_9.out.symm), (sl11.trans hj124_11.out.symm), (sl153.trans hj124_153.out.symm), (sl154.trans hj124_154.out.symm), (sl155.trans hj124_155.out.symm), HL125.out⟩
         ·skip
          clear sl10 sl13 sl167; rintro s126 w127 ⟨sl10, e1, e3, e5, e7, e9, e11, e153, e154, e155, hb⟩; replace sl1 := e1.trans sl1; clear e1 hj124_1; replace sl3 := e3.trans sl3; clear e3 hj124_3; replace sl5 := e5.trans sl5; clear e5 hj124_5; replace sl7 := e7.trans sl7; clear e7 hj124_7; replace sl9 := e9.trans sl9; clear e9 hj124_9; replace sl11 := e11.trans sl11; clear e11 hj124_11; replace sl153 := e153.trans sl153; clear e153 hj124_153; replace sl154 := e154.trans sl154; clear e154 hj124_154; replace sl155 := e155.trans sl155; clear e155 hj124_155; clear qb3 qb5 qb8; replace hr13 := Rd.oldB hr13 hb (by simp); revert HB; revert HL35; revert kb8; revert kb5; revert kb3; refine uO hb ?_; clear hb; intro kb3 qb3 kb5 qb5 kb8 qb8 HL35 HB
          refine nr ?_; intros
          refine P3 ?_
          refine lsa fun s129 z' => ?_; replace sl1 := slg z' sl1; replace sl3 := slg z' sl3; replace sl5 := slg z' sl5; replace sl7 := slg z' sl7; replace sl9 := slg z' sl9; replace sl10 := slg z' sl10; replace sl11 := gu 11 z'; replace sl153 := slg z' sl153; replace sl154 := slg z' sl154; replace sl155 := slg z' sl155; clear z'; refine ln ?_; intros
          refine ⟨_, _, rfl, ?_, t + 1, rfl, (rL sl10), (rL sl11), (sl1.trans hc0_1.out.symm), (sl3.trans hc0_3.out.symm), (sl5.trans hc0_5.out.symm), (sl7.trans hc0_7.out.symm), (sl9.trans hc0_9.out.symm), HL35.out, by omega⟩
          omega
       ·skip
        have he1 : ¬ ev = 1 := by have h := h152; simp at h; omega
        refine F3 ?_; refine P2 ?_
        refine F3 ?_
        iterate 5 refine pu ?_
        refine pn false ?_; refine pl ?_; clear sl152; refine lx [167] ?_; clear sl1 sl3 sl5 sl7 sl9 sl10 sl11 sl13; intro s130 sl1 sl3 sl5 sl7 sl9 sl10 sl11 sl13 sl167; refine ln ?_; intros
        have hj131_1 := hid sl1; have hj131_3 := hid sl3; have hj131_5 := hid sl5; have hj131_7 := hid sl7; have hj131_9 := hid sl9; have hj131_11 := hid sl11; refine cut_any (fun sJ wJ => sJ 10 = .int .i64 (leastT s fs e0 mn (t + 1)) ∧ sJ 1 = s130 1 ∧ sJ 3 = s130 3 ∧ sJ 5 = s130 5 ∧ sJ 7 = s130 7 ∧ sJ 9 = s130 9 ∧ sJ 11 = s130 11 ∧ OldB [] w60 wJ) ?_ ?_
        ·skip
         have HL132 := hid (OldB.refl [] w60); refine cond_f ?_
         refine zx ?_; intros
         exact ⟨trv, _, rfl, (by rw [sl10, Hls.out, stepL, if_neg he1]), (sl1.trans hj131_1.out.symm), (sl3.trans hj131_3.out.symm), (sl5.trans hj131_5.out.symm), (sl7.trans hj131_7.out.symm), (sl9.trans hj131_9.out.symm), (sl11.trans hj131_11.out.symm), HL132.out⟩
        ·skip
         clear sl10 sl13 sl167; rintro s133 w134 ⟨sl10, e1, e3, e5, e7, e9, e11, hb⟩; replace sl1 := e1.trans sl1; clear e1 hj131_1; replace sl3 := e3.trans sl3; clear e3 hj131_3; replace sl5 := e5.trans sl5; clear e5 hj131_5; replace sl7 := e7.trans sl7; clear e7 hj131_7; replace sl9 := e9.trans sl9; clear e9 hj131_9; replace sl11 := e11.trans sl11; clear e11 hj131_11; clear qb3 qb5 qb8; replace hr13 := Rd.oldB hr13 hb (by simp); revert HB; revert HL35; revert kb8; revert kb5; revert kb3; refine uO hb ?_; clear hb; intro kb3 qb3 kb5 qb5 kb8 qb8 HL35 HB
         refine nr ?_; intros
         refine P3 ?_
         clear sl11; refine lx [11] ?_; clear sl1 sl3 sl5 sl7 sl9 sl10; intro _ sl1 sl3 sl5 sl7 sl9 sl10 sl11; refine ln ?_; intros
         refine ⟨_, _, rfl, ?_, t + 1, rfl, (rL sl10), (rL sl11), (sl1.trans hc0_1.out.symm), (sl3.trans hc0_3.out.symm), (sl5.trans hc0_5.out.symm), (sl7.trans hc0_7.out.symm), (sl9.trans hc0_9.out.symm), HL35.out, by omega⟩
         omega
   ·skip
    have ht : t = 4 := by have h := h45; simp at h; omega
    rw [ht] at sl10
    refine zx ?_; intros
    clear HL35; clear hc0_1 hc0_3 hc0_5 hc0_7 hc0_9; refine region_F ?_
    refine P3 ?_
    clear sl1 sl3 sl5 sl9 sl11 sl45; refine lx [173] ?_; clear sl7 sl10; intro _ sl7 sl10 sl173
    refine boolG sl173 (fun sl173' h173 => ?_) (fun sl173' h173 => ?_) <;> (clear sl173; have sl173 := sl173'; clear sl173')
    ·skip
     refine pn true ?_; refine pn true ?_; refine pn true ?_; refine P2 ?_; refine listF_yes rfl rfl (by decide) ?_ (fun K' hK => ?_); (focus (go_simp; done)); unfold opF; go_simp; refine (awake_any _).mono ?_; rintro e _ ⟨rfl, hb⟩; refine ⟨_, rfl, hK _ _ ?_⟩; clear hK K'; clear qb3 qb5 qb8; revert HB; revert kb8; revert kb5; revert kb3; refine uA hb ?_; clear hb; intro kb3 qb3 kb5 qb5 kb8 qb8 HB; refine P2 ?_; clear sl7 sl10 sl173; refine lx [6] ?_; intro _ sl6; refine ln ?_; intros
     refine XV8c ?_; exact ⟨rfl, HB.out.toBelow⟩
    ·skip
     have he0 : e1 = 0 := by have h := h173; have h2 := He1.out; simp at h; omega
     obtain ⟨k0, hk1, hk2⟩ := Hn0.out he0; rw [least_first hk1, ← hk2] at sl10
     iterate 3 refine py ?_
     refine P2 ?_; refine listF_yes rfl rfl (by decide) ?_ (fun K' hK => ?_); (focus (go_simp; done)); unfold opF; go_simp; refine (awake_any _).mono ?_; rintro e _ ⟨rfl, hb⟩; refine ⟨_, rfl, hK _ _ ?_⟩; clear hK K'; clear qb3 qb5 qb8; revert HB; revert kb8; revert kb5; revert kb3; refine uA hb ?_; clear hb; intro kb3 qb3 kb5 qb5 kb8 qb8 HB; refine P2 ?_; clear sl7 sl10 sl173; refine lx [6] ?_; intro _ sl6; refine ln ?_; intros
     refine XV8c ?_; exact ⟨rfl, HB.out.toBelow⟩

end Go.Proofs.YtleknidlgmmgbaaGreat
