/- What Suspects answers. -/
import Derived.Test.YtleknidlgmmgbaaGreattlW46
set_option linter.all false
namespace Go.Proofs.YtleknidlgmmgbaaGreat

section
open Go.RowKit


theorem cat_le {xs : List SlE} (h : ∀ j (hj : j < xs.length), xs[j].l.length ≤ 60) : ∀ i, i ≤ xs.length → (catE xs i).length ≤ 60 * i
  | 0, _ => by unfold catE; simp
  | i + 1, hi => by
    have := cat_le h i (by omega); rw [catE_succ (by omega), List.length_append]; have := h i (by omega)
    omega
theorem zeroEnt (w : World) : (zeroValue 65).run Tryz.prog w = .ok (.agg #[.int .i64 0, .int .i64 0, .int .i64 0, .string ByteArray.empty]) w := by kernel_rfl
theorem ent_eqv (x y : Ent) : x = y ↔ x.num = y.num ∧ x.mach = y.mach ∧ x.day = y.day ∧ x.unit.toList = y.unit.toList := eq_ent x y

theorem XW47b {A : Prop} (e : A := by exact (fun b hb => by have := H8.out b hb; simp; omega)) : A := e
theorem XW47c {A B1 : Prop} (hX1 : B1) (e : B1 → A := by intro hX1; exact callpan_in (ch := [{ v := .iface 30 (.int .i64 7), recovered := false }]) (f := 54) (args := #[.bool false, .int .i64 7]) (by go_simp) hX1) : A := e hX1
theorem XW47d {A : Prop} (e : A := by exact ⟨none, 0, rfl, .inl rfl, (fun b hb => by cases hb), HB.out.toBelow.trans (OldB.lowN ho HB.out.size (by simp; omega))⟩) : A := e
theorem XW47e {A B1 : Prop} (hX1 : B1) (e : B1 → A := by intro hX1; exact callpan_in (ch := [{ v := .iface 30 (.int .i64 3), recovered := false }]) (f := 54) (args := #[.bool false, .int .i64 3]) (by go_simp) hX1) : A := e hX1
theorem XW47f {A B1 : Prop} (hX1 : B1) (e : B1 → A := by intro hX1; exact opF_look (d := 76) rfl (by decide) (.tmp 74) (.tmp 75) true rfl KM Tryz.underlying102 (zeroEnt _) hmp (y.mach, y.num) (by go_simp) (by go_simp) hky hX1) : A := e hX1
set_option maxRecDepth 100000 in
set_option maxHeartbeats 32000000 in
theorem merge_v (a : Option Addr) (c : Nat) (xs : List SlE) (R : List Ent) (er : Int) (w : World) (hR : RdSlE w a xs) (hE : ∀ x ∈ xs, RdEn w x.a x.l) (hlx : xs.length ≤ 9223372036854775807) (hlx2 : ∀ x ∈ xs, x.l.length ≤ 9223372036854775807) (hun : ∀ x ∈ xs, ∀ y ∈ x.l, y.unit.size ≤ 9223372036854775807) (hr : mergeR (xs.map SlE.l) = (R, er)) :
    Calls Tryz.prog 19 #[.slice a xs.length c] w (fun e w' => ∃ a' c', e = .returned (.tuple #[.slice a' R.length c', .int .i64 er]) ∧ RdEn w' a' R ∧ (∀ b, a' = some b → w.heap.size ≤ b.block) ∧ Below w.heap.size w w') := by
 have hmf := hmf; have HR := hid hR; have HE := hid hE; have Hr := hid hr; clear hR hE hr; have Hun := hid hun; clear hun; refine enterM_F Tryz.func19 rfl Tryz.ntmps19 (by simp) ?_; intro s0 hs; have Z0 : s0 0 = .slice a xs.length c := hs 0 (by simp); clear hs; have HB := hid (OldB.refl [] w)
 refine nr ?_; intros; refine pa (fun w1 B2 hB Y2 hb2 => ?_); have gb2 := HB.out.gB hB; have eb2 := eB hB; clear hB; replace HB := bE HB hb2; clear hb2; have Q2 := Y2.1; refine pa (fun w3 B3 hB Y3 hb4 => ?_); have gb3 := HB.out.gB hB; have ob2_b3 := oB Q2 hB; have eb3 := eB hB; clear hB; clear Q2; revert Y2 HB; refine uA hb4 ?_; clear hb4; intro Y2 Q2 HB; have Q3 := Y3.1; refine lx [2,3] ?_; clear Z0; intro s5 Z0 Z2 Z3; refine ln ?_; intros
 refine region_yield (k := 1) (by kernel_rfl) ?_
 simp only [List.take_succ_cons, List.take_zero, List.drop_succ_cons, List.drop_zero]
 refine pl ?_; refine lx [15] ?_; clear Z0 Z2 Z3; intro s6 Z0 Z2 Z3 Z15; refine lsn ?_; refine defer_in (d := repD B2 B3) (w' := w3) (by unfold Oper.semAt; go_simp; rfl) ?_; refine wpListIn_nil ?_; clear hmf
 refine zx ?_; intros
 by_cases h8 : xs.length ≤ 8
 ·skip
  refine region_F ?_
  refine P3 ?_
  clear Z15; refine lx [18] ?_; clear Z0 Z2 Z3; intro s9 Z0 Z2 Z3 Z18
  replace Z18 : s9 18 = .bool true := by rw [Z18]; simp; omega
  refine cal (must_ok 3 _) ?_; rintro e w' ⟨rfl, rfl⟩; refine ⟨_, rfl, ?_⟩; clear Z18; refine lx [] ?_; clear Z0 Z2 Z3; intro s11 Z0 Z2 Z3; refine lr ?_; intros
  refine P3 ?_
  refine lx [20,21,22] ?_; clear Z0 Z2 Z3; intro s12 Z0 Z2 Z3 Z20 Z21 Z22; refine ln ?_; intros
  have hc0_0 := hid Z0; have hc0_2 := hid Z2; have hc0_3 := hid Z3; have hc0_20 := hid Z20; have hc0_21 := hid Z21; refine loop_F (n := 93) (fun kJ sJ wJ => ∃ (i : Nat), kJ = xs.length - i ∧ sJ 22 = .int .i64 (i : Int) ∧ sJ 0 = s12 0 ∧ sJ 2 = s12 2 ∧ sJ 3 = s12 3 ∧ sJ 20 = s12 20 ∧ sJ 21 = s12 21 ∧ OldB [] w3 wJ ∧ i ≤ xs.length ∧ (Hid (∀ j (hj : j < xs.length), j < i → fileErr xs[j].l = 0))) ⟨0, rfl, (by first | exact Z22 | (rw [Z22]; go_num) | (rw [Z22]; rfl)), rfl, rfl, rfl, rfl, rfl, OldB.refl _ _, Nat.zero_le _, hid (fun j hj h => by omega)⟩ ?_; clear Z22; rintro kJ s13 w14 ⟨i, rfl, Z22, e0, e2, e3, e20, e21, hb15, hil, hok⟩; rw [← e0] at Z0; clear e0; rw [← e2] at Z2; clear e2; rw [← e3] at Z3; clear e3; rw [← e20] at Z20; clear e20; rw [← e21] at Z21; clear e21; have hoJ := hb15; clear Q2 Q3; revert Y3 Y2 HB; refine uO hb15 ?_; clear hb15; intro Y3 Q3 Y2 Q2 HB; have HoJ := hid hoJ; clear hoJ; have HL16 := HoJ; clear HoJ
  refine nr ?_; intros; refine pl ?_; refine lx [23] ?_; clear Z0 Z2 Z3 Z20 Z21 Z22; intro s17 Z0 Z2 Z3 Z20 Z21 Z22 Z23; refine ln ?_; intros
  refine cond_E Z23 (by decide) ?_ ?_ <;> (clear Z23; intro h23 Z23)
  ·skip
   have hi : i < xs.length := by simpa using h23
   have hii : (i : Int) < xs.length := by omega
   obtain ⟨bx, ox, hax, hbx, cx⟩ := RdSlE.ne (Rd.oldB HR.out HB.out (by simp)) hi; subst hax; obtain ⟨x, hx⟩ : ∃ x, xs[i] = x := ⟨_, rfl⟩; rw [hx] at cx; have Hx := hid hx
   have hxm : x ∈ xs := by rw [← hx]; exact List.getElem_mem hi
   have hxl := hlx2 x hxm; clear hx
   have him : i < (xs.map SlE.l).length := by simpa using hi
   have Hxm := hid (show (xs.map SlE.l)[i] = x.l by rw [List.getElem_map, Hx.out])
   have hokm : ∀ j (hj : j < (xs.map SlE.l).length), j < i → fileErr (xs.map SlE.l)[j] = 0 := fun j hj h => by rw [List.getElem_map]; exact hok.out j (by simpa using hj) h
   refine nr ?_; intros
   refine P3 ?_
   clear Z23; refine lx [5] ?_; clear Z0 Z2 Z3 Z20 Z21 Z22; intro s18 Z0 Z2 Z3 Z20 Z21 Z22 Z5; refine ln ?_; intros
   by_cases h60 : x.l.length ≤ 60
   ·skip
    refine region_F ?_
    refine P3 ?_
    refine lx [28] ?_; clear Z0 Z2 Z3 Z5 Z20 Z21 Z22; intro s19 Z0 Z2 Z3 Z5 Z20 Z21 Z22 Z28
    replace Z28 : s19 28 = .bool true := by rw [Z28]; simp; omega
    refine cal (must_ok 3 _) ?_; rintro e w' ⟨rfl, rfl⟩; refine ⟨_, rfl, ?_⟩; clear Z28; refine lx [] ?_; clear Z0 Z2 Z3 Z5 Z20 Z21 Z22; intro s21 Z0 Z2 Z3 Z5 Z20 Z21 Z22; refine lr ?_; intros
    refine P3 ?_
    clear Z5; refine lx [30,31,32] ?_; clear Z0 Z2 Z3 Z20 Z21 Z22; intro s22 Z0 Z2 Z3 Z20 Z21 Z22 Z30 Z31 Z32; refine ln ?_; intros
    have hc1_0 := hid Z0; have hc1_2 := hid Z2; have hc1_3 := hid Z3; have hc1_20 := hid Z20; have hc1_21 := hid Z21; have hc1_22 := hid Z22; have hc1_30 := hid Z30; have hc1_31 := hid Z31; refine loop_F (n := 93) (fun kJ sJ wJ => ∃ (k : Nat), kJ = x.l.length - k ∧ sJ 32 = .int .i64 (k : Int) ∧ sJ 0 = s22 0 ∧ sJ 2 = s22 2 ∧ sJ 3 = s22 3 ∧ sJ 20 = s22 20 ∧ sJ 21 = s22 21 ∧ sJ 22 = s22 22 ∧ sJ 30 = s22 30 ∧ sJ 31 = s22 31 ∧ OldB [] w14 wJ ∧ k ≤ x.l.length ∧ (Hid (∀ j (hj : j < x.l.length), j < k → entErr x.l[j] = 0))) ⟨0, rfl, (by first | exact Z32 | (rw [Z32]; go_num) | (rw [Z32]; rfl)), rfl, rfl, rfl, rfl, rfl, rfl, rfl, rfl, OldB.refl _ _, Nat.zero_le _, hid (fun j hj h => by omega)⟩ ?_; clear Z32; rintro kJ s23 w24 ⟨k, rfl, Z32, e0, e2, e3, e20, e21, e22, e30, e31, hb25, hkl, Hok2⟩; rw [← e0] at Z0; clear e0; rw [← e2] at Z2; clear e2; rw [← e3] at Z3; clear e3; rw [← e20] at Z20; clear e20
    rw [← e21] at Z21; clear e21; rw [← e22] at Z22; clear e22; rw [← e30] at Z30; clear e30; rw [← e31] at Z31; clear e31; have hoJ := hb25; clear Q2 Q3; revert HB; revert HL16; revert Y3; revert Y2; refine uO hb25 ?_; clear hb25; intro Y2 Q2 Y3 Q3 HL16 HB; have HoJ := hid hoJ; clear hoJ; have HL26 := HoJ; clear HoJ
    refine nr ?_; intros; refine pl ?_; refine lx [33] ?_; clear Z0 Z2 Z3 Z20 Z21 Z22 Z30 Z31 Z32; intro s27 Z0 Z2 Z3 Z20 Z21 Z22 Z30 Z31 Z32 Z33; refine ln ?_; intros
    refine cond_E Z33 (by decide) ?_ ?_ <;> (clear Z33; intro h33 Z33)
    ·skip
     have hk : k < x.l.length := by simpa using h33
     have hkk : (k : Int) < x.l.length := by omega
     obtain ⟨by1, oy1, hay, hby, c0, c1, c2, c3⟩ := RdEn.ne (Rd.oldB (HE.out x hxm) HB.out (by simp)) hk; obtain ⟨y, hy⟩ : ∃ y, x.l[k] = y := ⟨_, rfl⟩; rw [hy] at c0 c1 c2 c3; have Hy := hid hy; have hyu := Hun.out x hxm y (by rw [← hy]; exact List.getElem_mem hk); clear hy; have Hay := hid hay; clear hay; rw [Hay.out] at Z30
     refine nr ?_; intros; refine P2 ?_; refine pa (fun w28 B7 hB Y7 hb29 => ?_); have gb7 := HB.out.gB hB; have lHL16_b7 := HL16.out.gB hB; have lHL26_b7 := HL26.out.gB hB; have ob2_b7 := oB Q2 hB; have ob3_b7 := oB Q3 hB; have eb7 := eB hB; clear hB; clear Q2 Q3; revert Y2 Y3 HL16 HB HL26; refine uA hb29 ?_; clear hb29; intro Y2 Q2 Y3 Q3 HL16 HB HL26; have Q7 := Y7.1; have cb7 := clx Y7; have zb7 := Y7.2.2; refine pl ?_; refine sto Y7 ?_; clear Y7 cb7 zb7; intro w30 Y7 hb31; clear Q2 Q3 Q7; revert Y2 Y3 HL16 HB HL26; refine uO hb31 ?_; clear hb31; intro Y2 Q2 Y3 Q3 HL16 HB HL26; have Q7 := Y7.1; clear Z33; refine lx [7] ?_; clear Z0 Z2 Z3 Z20 Z21 Z22 Z30 Z31 Z32; intro s32 Z0 Z2 Z3 Z20 Z21 Z22 Z30 Z31 Z32 Z7; refine ln ?_; intros
     rcases ent_cases y with hb | ⟨hn1, hb⟩ | ⟨hn1, hn2, hb⟩ | ⟨hn1, hn2, hn3⟩
     ·skip
      refine region_yield (k := 16) (by kernel_rfl) ?_
      simp only [List.take_succ_cons, List.take_zero, List.drop_succ_cons, List.drop_zero]
      refine pl ?_; have cb7 := clx Y7; refine pl ?_; refine cal (tout_any y.num 1 1000000 _) ?_; rintro e w' ⟨rfl, rfl⟩; refine ⟨_, rfl, ?_⟩; refine P2 ?_
      refine F4 ?_; refine P2 ?_
      refine F4 ?_; refine pl ?_; refine lx [51] ?_; clear Z0 Z2 Z3 Z7 Z20 Z21 Z22 Z30 Z31 Z32; intro s34 Z0 Z2 Z3 Z7 Z20 Z21 Z22 Z30 Z31 Z32 Z51; refine lsn ?_
      replace Z51 : s34 51 = .bool false := by rw [Z51]; (try rfl)
      have e9 := Hr.out.symm.trans (merge_bad (merge_ent (by simpa using h8) him hokm Hxm.out h60 hk Hok2.out (show entErr _ = 7 by rw [Hy.out]; unfold entErr; rw [if_pos (.inl hb)]) (by decide)) (by decide))
      obtain ⟨rfl, rfl⟩ : R = [] ∧ er = 7 := by simpa using e9
      refine XW47c ?_; refine (must_bad 7 _).mono ?_; rintro e9' w9 ⟨rfl, rfl⟩; refine ⟨rfl, ?_⟩; refine (rep_leave_pan (er := 7) (n := 93) (Ds := []) (by decide) Z2 Z3 (by simp) List.nodup_nil Y2 Y3 (by omega) (by simp) (by simp) (fun w' ho => ?_) : bodyPostM _ _ _ _ _ (.panic _) (mkA _ _ _) _); exact XW47d
     ·skip
      refine region_yield (k := 16) (by kernel_rfl) ?_
      simp only [List.take_succ_cons, List.take_zero, List.drop_succ_cons, List.drop_zero]
      refine pl ?_; have cb7 := clx Y7; refine pl ?_; refine cal (tout_any y.num 1 1000000 _) ?_; rintro e w' ⟨rfl, rfl⟩; refine ⟨_, rfl, ?_⟩; refine P2 ?_; refine py ?_; refine py ?_; refine listF_yes rfl rfl (by decide) ?_ (fun K' hK => ?_); (focus (go_simp; done)); unfold opF; go_simp; refine (tout_any y.mach 1 2 _).mono ?_; rintro e w' ⟨rfl, rfl⟩; refine ⟨_, rfl, hK _ _ ?_⟩; clear hK K'; refine py ?_; refine P2 ?_
      refine F4 ?_; refine pl ?_; refine lx [41,42,43,44,51] ?_; clear Z0 Z2 Z3 Z7 Z20 Z21 Z22 Z30 Z31 Z32; intro s39 Z0 Z2 Z3 Z7 Z20 Z21 Z22 Z30 Z31 Z32 Z41 Z42 Z43 Z44 Z51; refine lsn ?_
      replace Z51 : s39 51 = .bool false := by rw [Z51]; (try rfl)
      have e9 := Hr.out.symm.trans (merge_bad (merge_ent (by simpa using h8) him hokm Hxm.out h60 hk Hok2.out (show entErr _ = 7 by rw [Hy.out]; unfold entErr; rw [if_pos (.inr (.inl hb))]) (by decide)) (by decide))
      obtain ⟨rfl, rfl⟩ : R = [] ∧ er = 7 := by simpa using e9
      refine XW47c ?_; refine (must_bad 7 _).mono ?_; rintro e9' w9 ⟨rfl, rfl⟩; refine ⟨rfl, ?_⟩; refine (rep_leave_pan (er := 7) (n := 93) (Ds := []) (by decide) Z2 Z3 (by simp) List.nodup_nil Y2 Y3 (by omega) (by simp) (by simp) (fun w' ho => ?_) : bodyPostM _ _ _ _ _ (.panic _) (mkA _ _ _) _); exact XW47d
     ·skip
      refine region_yield (k := 16) (by kernel_rfl) ?_
      simp only [List.take_succ_cons, List.take_zero, List.drop_succ_cons, List.drop_zero]
      refine pl ?_; have cb7 := clx Y7; refine pl ?_; refine cal (tout_any y.num 1 1000000 _) ?_; rintro e w' ⟨rfl, rfl⟩; refine ⟨_, rfl, ?_⟩; refine P2 ?_; refine py ?_; refine py ?_; refine listF_yes rfl rfl (by decide) ?_ (fun K' hK => ?_); (focus (go_simp; done)); unfold opF; go_simp; refine (tout_any y.mach 1 2 _).mono ?_; rintro e w' ⟨rfl, rfl⟩; refine ⟨_, rfl, hK _ _ ?_⟩; clear hK K'; refine py ?_; refine P2 ?_; refine py ?_; refine py ?_; refine listF_yes rfl rfl (by decide) ?_ (fun K' hK => ?_); (focus (go_simp; done)); unfold opF; go_simp; refine (tout_any y.day 0 40000 _).mono ?_; rintro e w' ⟨rfl, rfl⟩; refine ⟨_, rfl, hK _ _ ?_⟩; clear hK K'; refine py ?_; refine pl ?_; refine lx [41,42,43,44,47,48,49,50,51] ?_; clear Z0 Z2 Z3 Z7 Z20 Z21 Z22 Z30 Z31 Z32; intro s45 Z0 Z2 Z3 Z7 Z20 Z21 Z22 Z30 Z31 Z32 Z41 Z42 Z43 Z44 Z47 Z48 Z49 Z50 Z51; refine lsn ?_
      replace Z51 : s45 51 = .bool false := by rw [Z51]; (try rfl)
      have e9 := Hr.out.symm.trans (merge_bad (merge_ent (by simpa using h8) him hokm Hxm.out h60 hk Hok2.out (show entErr _ = 7 by rw [Hy.out]; unfold entErr; rw [if_pos (.inr (.inr hb))]) (by decide)) (by decide))
      obtain ⟨rfl, rfl⟩ : R = [] ∧ er = 7 := by simpa using e9
      refine XW47c ?_; refine (must_bad 7 _).mono ?_; rintro e9' w9 ⟨rfl, rfl⟩; refine ⟨rfl, ?_⟩; refine (rep_leave_pan (er := 7) (n := 93) (Ds := []) (by decide) Z2 Z3 (by simp) List.nodup_nil Y2 Y3 (by omega) (by simp) (by simp) (fun w' ho => ?_) : bodyPostM _ _ _ _ _ (.panic _) (mkA _ _ _) _); exact XW47d
     ·skip
      refine region_F ?_; refine pl ?_; have cb7 := clx Y7; refine pl ?_; refine cal (tout_any y.num 1 1000000 _) ?_; rintro e w' ⟨rfl, rfl⟩; refine ⟨_, rfl, ?_⟩; refine P2 ?_; refine py ?_; refine py ?_; refine listF_yes rfl rfl (by decide) ?_ (fun K' hK => ?_); (focus (go_simp; done)); unfold opF; go_simp; refine (tout_any y.mach 1 2 _).mono ?_; rintro e w' ⟨rfl, rfl⟩; refine ⟨_, rfl, hK _ _ ?_⟩; clear hK K'; refine py ?_; refine P2 ?_; refine py ?_; refine py ?_; refine listF_yes rfl rfl (by decide) ?_ (fun K' hK => ?_); (focus (go_simp; done)); unfold opF; go_simp; refine (tout_any y.day 0 40000 _).mono ?_; rintro e w' ⟨rfl, rfl⟩; refine ⟨_, rfl, hK _ _ ?_⟩; clear hK K'; refine py ?_; refine pl ?_; refine lx [51] ?_; clear Z0 Z2 Z3 Z7 Z20 Z21 Z22 Z30 Z31 Z32; intro s51 Z0 Z2 Z3 Z7 Z20 Z21 Z22 Z30 Z31 Z32 Z51
      replace Z51 : s51 51 = .bool true := by rw [Z51]; (try rfl)
      refine cal (must_ok 7 _) ?_; rintro e w' ⟨rfl, rfl⟩; refine ⟨_, rfl, ?_⟩; clear Z51; refine lx [] ?_; clear Z0 Z2 Z3 Z7 Z20 Z21 Z22 Z30 Z31 Z32; intro s53 Z0 Z2 Z3 Z7 Z20 Z21 Z22 Z30 Z31 Z32; refine ln ?_; intros
      rcases Bool.eq_false_or_eq_true (nameOk y.unit) with hnm | hnm
      ·skip
       refine region_F ?_; refine P2 ?_; refine cal (lname_any y.unit _ hyu) ?_; rintro e w54 ⟨rfl, hb55⟩; refine ⟨_, rfl, ?_⟩; clear cb7; clear Q2 Q3 Q7; revert HB; revert HL26; revert HL16; revert Y7; revert Y3; revert Y2; refine uA hb55 ?_; clear hb55; intro Y2 Q2 Y3 Q3 Y7 Q7 HL16 HL26 HB; clear Z7; refine lx [55] ?_; clear Z0 Z2 Z3 Z20 Z21 Z22 Z30 Z31 Z32; intro s56 Z0 Z2 Z3 Z20 Z21 Z22 Z30 Z31 Z32 Z55
       replace Z55 : s56 55 = .bool true := by rw [Z55]; rw [hnm]
       refine cal (must_ok 6 _) ?_; rintro e w' ⟨rfl, rfl⟩; refine ⟨_, rfl, ?_⟩; clear Z55; refine lx [] ?_; clear Z0 Z2 Z3 Z20 Z21 Z22 Z30 Z31 Z32; intro s58 Z0 Z2 Z3 Z20 Z21 Z22 Z30 Z31 Z32; refine lr ?_; intros; refine P2 ?_; clear Z32; refine lx [32] ?_; clear Z0 Z2 Z3 Z20 Z21 Z22 Z30 Z31; intro s59 Z0 Z2 Z3 Z20 Z21 Z22 Z30 Z31 Z32; refine ln ?_; intros
       rw [← Hay.out] at Z30; refine ⟨_, _, rfl, ?_, k + 1, rfl, (rL Z32), sh, sh, sh, sh, sh, sh, sh, sh, HL26.out, by omega, hid (fun j hj h => by rcases Nat.lt_or_ge j k with h3 | h3 <;> first | exact Hok2.out j hj h3 | (have e : j = k := (by omega); subst e; rw [Hy.out]; exact entErr_zero.2 ⟨⟨hn1, hn2, hn3⟩, hnm⟩))⟩
       omega
      ·skip
       refine region_yield (k := 3) (by kernel_rfl) ?_
       simp only [List.take_succ_cons, List.take_zero, List.drop_succ_cons, List.drop_zero]
       refine P2 ?_; refine cal (lname_any y.unit _ hyu) ?_; rintro e w60 ⟨rfl, hb61⟩; refine ⟨_, rfl, ?_⟩; clear cb7; clear Q2 Q3 Q7; revert HB; revert HL26; revert HL16; revert Y7; revert Y3; revert Y2; refine uA hb61 ?_; clear hb61; intro Y2 Q2 Y3 Q3 Y7 Q7 HL16 HL26 HB; clear Z7; refine lx [55] ?_; clear Z0 Z2 Z3 Z20 Z21 Z22 Z30 Z31 Z32; intro s62 Z0 Z2 Z3 Z20 Z21 Z22 Z30 Z31 Z32 Z55; refine lsn ?_
       replace Z55 : s62 55 = .bool false := by rw [Z55]; rw [hnm]
       have e9 := Hr.out.symm.trans (merge_bad (merge_ent (by simpa using h8) him hokm Hxm.out h60 hk Hok2.out (show entErr _ = 6 by rw [Hy.out]; unfold entErr; rw [if_neg (by simp [hn1, hn2, hn3]), if_pos hnm]) (by decide)) (by decide))
       obtain ⟨rfl, rfl⟩ : R = [] ∧ er = 6 := by simpa using e9
       refine callpan_in (ch := [{ v := .iface 30 (.int .i64 6), recovered := false }]) (f := 54) (args := #[.bool false, .int .i64 6]) (by go_simp) ?_; refine (must_bad 6 _).mono ?_; rintro e9' w9 ⟨rfl, rfl⟩; refine ⟨rfl, ?_⟩; refine (rep_leave_pan (er := 6) (n := 93) (Ds := []) (by decide) Z2 Z3 (by simp) List.nodup_nil Y2 Y3 (by omega) (by simp) (by simp) (fun w' ho => ?_) : bodyPostM _ _ _ _ _ (.panic _) (mkA _ _ _) _); exact XW47d
    ·skip
     have hk : k = x.l.length := by have h := h33; simp at h; omega
     have Hfk := hid (show fileErr (xs[i]).l = 0 by rw [Hx.out]; exact file_ok h60 (fun j hj => Hok2.out j hj (by omega)))
     refine zx ?_; intros
     clear HL26; clear hc1_0 hc1_2 hc1_3 hc1_20 hc1_21 hc1_22 hc1_30 hc1_31; refine region_F ?_; refine P2 ?_; clear Z22 Z30 Z31 Z32 Z33; refine lx [22] ?_; clear Z0 Z2 Z3 Z20 Z21; intro s65 Z0 Z2 Z3 Z20 Z21 Z22; refine ln ?_; intros
     refine ⟨_, _, rfl, ?_, i + 1, rfl, (rL Z22), sh, sh, sh, sh, sh, HL16.out, by omega, hid (fun j hj h => by rcases Nat.lt_or_ge j i with h3 | h3 <;> first | exact hok.out j hj h3 | (have e : j = i := (by omega); subst e; exact Hfk.out))⟩
     omega
   ·skip
    refine region_yield (k := 3) (by kernel_rfl) ?_
    simp only [List.take_succ_cons, List.take_zero, List.drop_succ_cons, List.drop_zero]
    refine P3 ?_
    refine lx [28] ?_; clear Z0 Z2 Z3 Z5 Z20 Z21 Z22; intro s66 Z0 Z2 Z3 Z5 Z20 Z21 Z22 Z28; refine lsn ?_
    replace Z28 : s66 28 = .bool false := by rw [Z28]; simp; omega
    have e9 := Hr.out.symm.trans (merge_bad (merge_file (by simpa using h8) him hokm (show fileErr _ = 3 by rw [Hxm.out]; unfold fileErr; rw [if_pos (by omega)]) (by decide)) (by decide))
    obtain ⟨rfl, rfl⟩ : R = [] ∧ er = 3 := by simpa using e9
    refine XW47e ?_; refine (must_bad 3 _).mono ?_; rintro e9' w9 ⟨rfl, rfl⟩; refine ⟨rfl, ?_⟩; refine (rep_leave_pan (er := 3) (n := 93) (Ds := []) (by decide) Z2 Z3 (by simp) List.nodup_nil Y2 Y3 (by omega) (by simp) (by simp) (fun w' ho => ?_) : bodyPostM _ _ _ _ _ (.panic _) (mkA _ _ _) _); exact XW47d
  ·skip
   have hi : i = xs.length := by have h := h23; simp at h; omega
   have hokA : ∀ j (hj : j < (xs.map SlE.l).length), fileErr (xs.map SlE.l)[j] = 0 := fun j hj => by rw [List.getElem_map]; exact hok.out j (by simpa using hj) (by have : j < xs.length := (by simpa using hj); omega)
   have hcl : (catE xs xs.length).length ≤ 1000 := by have := cat_le (xs := xs) (fun j hj => (file_all (hok.out j hj (by omega))).1) xs.length (Nat.le_refl _); omega
   refine zx ?_; intros
   clear HL16; clear hc0_0 hc0_2 hc0_3 hc0_20 hc0_21; refine region_F ?_; refine pl ?_; refine cal (concatE_any a c xs _ (Rd.oldB HR.out HB.out (by simp)) (fun x hx => Rd.oldB (HE.out x hx) HB.out (by simp)) hcl (by omega)) ?_; rintro e w69 ⟨v8, rfl, hO8, hb70⟩; obtain ⟨a8, c8, rfl, hr8, hn8⟩ := Own.slice (f := Ent.cs) (m := 4) (fun _ => rfl) hO8; obtain ⟨all, hall⟩ : ∃ l, catE xs xs.length = l := ⟨_, rfl⟩
   have hlt8 : ∀ b, a8 = some b → b.block < w69.heap.size := fun b hb => (World.ownsRow.lt hO8 b.block (by rw [hb]; rfl)).2
   rw [hall] at hr8 hcl; rw [hall]; have Hall := hid (show all = (xs.map SlE.l).flatten by rw [← hall]; exact catE_flat xs); clear hO8 hn8; refine ⟨_, rfl, ?_⟩; clear Q2 Q3; revert HB; revert Y3; revert Y2; refine uA hb70 ?_; clear hb70; intro Y2 Q2 Y3 Q3 HB; refine pl ?_; clear Z0 Z20 Z21 Z22 Z23; refine lx [8] ?_; clear Z2 Z3; intro s71 Z2 Z3 Z8; refine lr ?_; intros; have HzE := hid (show ∀ z ∈ all, entErr z = 0 from fun z hz => by rw [Hall.out] at hz; obtain ⟨l9, h9, hz9⟩ := List.mem_flatten.1 hz; obtain ⟨j, hj, rfl⟩ := List.mem_iff_getElem.1 h9; exact (file_all (hokA j hj)).2 z hz9); obtain ⟨bm, hbm⟩ : ∃ b, b = w69.heap.size := ⟨_, rfl⟩; have gbm := HB.out.gB hbm; have ob2_bm := oB Q2 hbm; have ob3_bm := oB Q3 hbm; have H8 := hid (show ∀ b, a8 = some b → b.block < bm from fun b hb => by have := hlt8 b hb; omega); clear hlt8; refine listF_step rfl (fun K' hK => ?_); refine opF_makeMap (d := 61) (T := 102) (kt := 104) (kv := kvM) rfl (by decide) rfl (fun w72 hmp hb73 => hK _ _ ?_); clear hK K'; rw [← hbm] at hmp
   (try rw [← hbm])
   have lbm := hmp.lt; clear hbm; clear Q2 Q3; replace hr8 := Rd.at hr8 hb73; revert HB; revert Y3; revert Y2; refine uA hb73 ?_; clear hb73; intro Y2 Q2 Y3 Q3 HB; refine pl ?_; refine lx [9] ?_; clear Z2 Z3 Z8; intro s74 Z2 Z3 Z8 Z9; refine lr ?_; intros
   refine P3 ?_
   refine lx [62,63,64] ?_; clear Z2 Z3 Z8 Z9; intro s75 Z2 Z3 Z8 Z9 Z62 Z63 Z64; refine ln ?_; intros
   clear Q2 Q3; have hc2_2 := hid Z2; have hc2_3 := hid Z3; have hc2_8 := hid Z8; have hc2_9 := hid Z9; have hc2_62 := hid Z62; have hc2_63 := hid Z63; refine loop_F (n := 93) (fun kJ sJ wJ => ∃ (i : Nat), kJ = all.length - i ∧ sJ 64 = .int .i64 (i : Int) ∧ sJ 2 = s75 2 ∧ sJ 3 = s75 3 ∧ sJ 8 = s75 8 ∧ sJ 9 = s75 9 ∧ sJ 62 = s75 62 ∧ sJ 63 = s75 63 ∧ OldB [] w wJ ∧ i ≤ all.length ∧ Cells wJ B2 [.slice none 0 0] ∧ Cells wJ B3 [.int .i64 0] ∧ RdEn wJ a8 all ∧ MapV Tryz.prog 104 kvM wJ bm i (fun k => (lookE (all.take i) k).map entV) ∧ Hid (NoConf (all.take i))) ⟨0, rfl, (by first | exact Z64 | (rw [Z64]; go_num) | (rw [Z64]; rfl)), rfl, rfl, rfl, rfl, rfl, rfl, HB.out, Nat.zero_le _, Y2, Y3, hr8, hmp, hid (fun a ha => by simp at ha)⟩ ?_; clear Z64 Y2 Y3 hr8 hmp HB; rintro kJ s76 w77 ⟨i, rfl, Z64, e2, e3, e8, e9, e62, e63, HB', hil, k2x, k3x, hr8, hmp, hnc⟩; rw [← e2] at Z2; clear e2
   rw [← e3] at Z3; clear e3; rw [← e8] at Z8; clear e8; rw [← e9] at Z9; clear e9; rw [← e62] at Z62; clear e62; rw [← e63] at Z63; clear e63; have HB := hid HB'; clear HB'; have Y2 := k2x; clear k2x; have Q2 := Y2.1; have Y3 := k3x; clear k3x; have Q3 := Y3.1; have lbm := hmp.lt
   refine nr ?_; intros; refine pl ?_; refine lx [65] ?_; clear Z2 Z3 Z8 Z9 Z62 Z63 Z64; intro s78 Z2 Z3 Z8 Z9 Z62 Z63 Z64 Z65; refine ln ?_; intros
   refine cond_E Z65 (by decide) ?_ ?_ <;> (clear Z65; intro h65 Z65)
   ·skip
    have hk : i < all.length := by simpa using h65
    have hkk : (i : Int) < all.length := by omega
    obtain ⟨by1, oy1, hay, hby, c0, c1, c2, c3⟩ := RdEn.ne hr8 hk; obtain ⟨y, hy⟩ : ∃ y, all[i] = y := ⟨_, rfl⟩; rw [hy] at c0 c1 c2 c3; have Hy := hid hy; have Htk := hid (show all.take (i + 1) = all.take i ++ [y] by rw [List.take_succ_eq_append_getElem hk, hy]); have HyB := hid (entB_of (HzE.out y (by rw [← hy]; exact List.getElem_mem hk))); have Hay := hid hay; clear hay hy; rw [Hay.out] at Z62; obtain ⟨kl, hky⟩ := keyM (a := y.mach) (b := y.num) (wf_of (by have := HyB.out.2.1; omega) (by have := HyB.out.2.1; omega)) (wf_of (by have := HyB.out.1; omega) (by have := HyB.out.1; omega))
    refine nr ?_; intros; refine P2 ?_; refine pa (fun w79 B11 hB Y11 hb80 => ?_); have gb11 := HB.out.gB hB; have ob2_b11 := oB Q2 hB; have ob3_b11 := oB Q3 hB; have eb11 := eB hB; clear hB; clear Q2 Q3; replace hr8 := Rd.at hr8 hb80; replace hmp := MapV.at hmp hb80; revert HB Y2 Y3; refine uA hb80 ?_; clear hb80; intro HB Y2 Q2 Y3 Q3; have Q11 := Y11.1; have cb11 := clx Y11; have zb11 := Y11.2.2; refine pl ?_; refine sto Y11 ?_; clear Y11 cb11 zb11; intro w81 Y11 hb82; clear Q2 Q3 Q11; replace hr8 := Rd.oldB hr8 hb82 XW47b; replace hmp := MapV.oldB hmp hb82 (by simp; omega); revert HB Y2 Y3; refine uO hb82 ?_; clear hb82; intro HB Y2 Q2 Y3 Q3; have Q11 := Y11.1; clear Z65; refine lx [11] ?_; clear Z2 Z3 Z8 Z9 Z62 Z63 Z64; intro s83 Z2 Z3 Z8 Z9 Z62 Z63 Z64 Z11; refine lr ?_; intros; refine pl ?_; have cb11 := clx Y11
    refine P4 ?_
    refine pa (fun w84 B12 hB Y12 hb85 => ?_); have gb12 := HB.out.gB hB; have ob2_b12 := oB Q2 hB; have ob3_b12 := oB Q3 hB; have ob11_b12 := oB Q11 hB; have eb12 := eB hB; clear hB; clear cb11; clear Q2 Q3 Q11; replace hr8 := Rd.at hr8 hb85; replace hmp := MapV.at hmp hb85; revert Y11 HB Y2 Y3; refine uA hb85 ?_; clear hb85; intro Y11 Q11 HB Y2 Q2 Y3 Q3; have Q12 := Y12.1; have cb12 := clx Y12; have zb12 := Y12.2.2; refine pl ?_; refine sto Y12 ?_; clear Y12 cb12 zb12; intro w86 Y12 hb87; clear Q2 Q3 Q11 Q12; replace hr8 := Rd.oldB hr8 hb87 XW47b; replace hmp := MapV.oldB hmp hb87 (by simp; omega); revert Y11 HB Y2 Y3; refine uO hb87 ?_; clear hb87; intro Y11 Q11 HB Y2 Q2 Y3 Q3; have Q12 := Y12.1; refine lx [12] ?_; clear Z2 Z3 Z8 Z9 Z11 Z62 Z63 Z64; intro s88 Z2 Z3 Z8 Z9 Z11 Z62 Z63 Z64 Z12
    refine ln ?_; intros
    obtain ⟨oy, Hlk'⟩ : ∃ o, lookE (all.take i) (y.mach, y.num) = o := ⟨_, rfl⟩; rcases oy with _ | z
    ·skip
     have Hlk := hid Hlk'; clear Hlk'; refine region_F ?_; refine pl ?_; have cb12 := clx Y12; refine pl ?_; refine listF_step rfl (fun K' hK => ?_); refine XW47f ?_
     simp only [Hlk.out, Option.map_none, Option.map_some, Option.getD_none, Option.getD_some, Option.isSome_none, Option.isSome_some, if_true]
     refine hK _ _ ?_; clear hK K'
     refine P3 ?_
     refine pa (fun w91 B13 hB Y13 hb92 => ?_); have gb13 := HB.out.gB hB; have ob2_b13 := oB Q2 hB; have ob3_b13 := oB Q3 hB; have ob11_b13 := oB Q11 hB; have ob12_b13 := oB Q12 hB; have eb13 := eB hB; clear hB; clear cb12; clear Q2 Q3 Q11 Q12; replace hr8 := Rd.at hr8 hb92; replace hmp := MapV.at hmp hb92; revert HB; revert Y12; revert Y11; revert Y3; revert Y2; refine uA hb92 ?_; clear hb92; intro Y2 Q2 Y3 Q3 Y11 Q11 Y12 Q12 HB; have Q13 := Y13.1; have cb13 := clx Y13; have zb13 := Y13.2.2; refine pl ?_; refine sto Y13 ?_; clear Y13 cb13 zb13; intro w93 Y13 hb94; clear Q2 Q3 Q11 Q12 Q13; replace hr8 := Rd.oldB hr8 hb94 XW47b; replace hmp := MapV.oldB hmp hb94 (by simp; omega); revert Y2 Y3 Y11 Y12 HB; refine uO hb94 ?_; clear hb94; intro Y2 Q2 Y3 Q3 Y11 Q11 Y12 Q12 HB; have Q13 := Y13.1; refine pl ?_; refine lx [13,14] ?_; clear Z2 Z3 Z8 Z9 Z11 Z12 Z62 Z63 Z64; intro s95 Z2 Z3 Z8 Z9 Z11 Z12 Z62 Z63 Z64 Z13 Z14; refine lr ?_; intros
     refine P3 ?_
     refine pn true ?_; refine pn true ?_; refine pn true ?_; refine pl ?_; clear Z13 Z14; refine lx [85] ?_; clear Z2 Z3 Z8 Z9 Z11 Z12 Z62 Z63 Z64; intro s96 Z2 Z3 Z8 Z9 Z11 Z12 Z62 Z63 Z64 Z85
     replace Z85 : s96 85 = .bool true := by rw [Z85]; (try rfl)
     refine cal (must_ok 5 _) ?_; rintro e w' ⟨rfl, rfl⟩; refine ⟨_, rfl, ?_⟩; clear Z85; refine lx [] ?_; clear Z2 Z3 Z8 Z9 Z11 Z12 Z62 Z63 Z64; intro s98 Z2 Z3 Z8 Z9 Z11 Z12 Z62 Z63 Z64; refine lr ?_; intros; refine pl ?_; have cb12 := clx Y12; refine pl ?_; have cb11 := clx Y11; refine pl ?_; refine listF_step rfl (fun K' hK => ?_); refine opF_put (T := 102) (kt := 104) (E := 65) (kv := kvM) (.tmp 87) (.tmp 88) (.tmp 89) rfl KM Tryz.underlying102 hmp (by omega) (fun x y h => by obtain ⟨x1, x2⟩ := x; obtain ⟨y1, y2⟩ := y; simpa [kvM] using h) (y.mach, y.num) (by go_simp) (by go_simp) hky (fun w99 hm2 hb100 => hK _ _ ?_); clear hK K'
     have hm3 : MapV Tryz.prog 104 kvM w99 bm (i + 1) (fun k => (lookE (all.take (i + 1)) k).map entV) := by have e : (fun k => (lookE (all.take (i + 1)) k).map entV) = (fun k => if k = (y.mach, y.num) then some (entV y) else (lookE (all.take i) k).map entV) := (by funext k; rw [Htk.out, lookE_snoc]; split <;> rfl); rw [e]; simpa using hm2
     clear hm2 hmp; clear cb11 cb12; clear Q2 Q3 Q11 Q12 Q13; replace hr8 := Rd.oldB hr8 hb100 XW47b; revert Y13 Y2 Y3 Y11 Y12 HB; refine uO hb100 ?_; clear hb100; intro Y13 Q13 Y2 Q2 Y3 Q3 Y11 Q11 Y12 Q12 HB; clear Z11 Z12; refine lx [] ?_; clear Z2 Z3 Z8 Z9 Z62 Z63 Z64; intro s101 Z2 Z3 Z8 Z9 Z62 Z63 Z64; refine lr ?_; intros; refine P2 ?_; clear Z64; refine lx [64] ?_; clear Z2 Z3 Z8 Z9 Z62 Z63; intro s102 Z2 Z3 Z8 Z9 Z62 Z63 Z64; refine ln ?_; intros
     rw [← Hay.out] at Z62; refine ⟨_, _, rfl, ?_, i + 1, rfl, (rL Z64), sh, sh, sh, sh, sh, sh, HB.out, by omega, Y2, Y3, hr8, hm3, hid (by rw [Htk.out]; exact noConf_new hnc.out Hlk.out)⟩
     omega
    ·skip
     have Hlk := hid Hlk'; clear Hlk'; refine region_F ?_; refine pl ?_; have cb12 := clx Y12; refine pl ?_; refine listF_step rfl (fun K' hK => ?_); refine XW47f ?_
     simp only [Hlk.out, Option.map_none, Option.map_some, Option.getD_none, Option.getD_some, Option.isSome_none, Option.isSome_some, if_true]
     refine hK _ _ ?_; clear hK K'
     refine P3 ?_
     refine pa (fun w105 B13 hB Y13 hb106 => ?_); have gb13 := HB.out.gB hB; have ob2_b13 := oB Q2 hB; have ob3_b13 := oB Q3 hB; have ob11_b13 := oB Q11 hB; have ob12_b13 := oB Q12 hB; have eb13 := eB hB; clear hB; clear cb12; clear Q2 Q3 Q11 Q12; replace hr8 := Rd.at hr8 hb106; replace hmp := MapV.at hmp hb106; revert HB; revert Y12; revert Y11; revert Y3; revert Y2; refine uA hb106 ?_; clear hb106; intro Y2 Q2 Y3 Q3 Y11 Q11 Y12 Q12 HB; have Q13 := Y13.1; have cb13 := clx Y13; have zb13 := Y13.2.2; refine pl ?_; refine sto Y13 ?_; clear Y13 cb13 zb13; intro w107 Y13 hb108; clear Q2 Q3 Q11 Q12 Q13; replace hr8 := Rd.oldB hr8 hb108 XW47b; replace hmp := MapV.oldB hmp hb108 (by simp; omega); revert Y2 Y3 Y11 Y12 HB; refine uO hb108 ?_; clear hb108; intro Y2 Q2 Y3 Q3 Y11 Q11 Y12 Q12 HB; have Q13 := Y13.1; refine pl ?_; refine lx [13,14] ?_; clear Z2 Z3 Z8 Z9 Z11 Z12 Z62 Z63 Z64; intro s109 Z2 Z3 Z8 Z9 Z11 Z12 Z62 Z63 Z64 Z13 Z14; refine ln ?_; intros
     by_cases hxy : y = z
     ·skip
      have Hxy := hid hxy; clear hxy; refine region_F ?_
      refine P3 ?_
      have cb11 := clx Y11; refine py ?_; have cb13 := clx Y13; refine py ?_; refine listF_yes rfl rfl (by decide) ?_ (fun K' hK => ?_); (focus (go_simp; done)); unfold opF; go_simp
      suffices hs : K' (.bool (decide (y.num = z.num ∧ y.mach = z.mach ∧ y.day = z.day ∧ y.unit.toList = z.unit.toList))) w107 by (by_cases q0 : y.num = z.num <;> by_cases q1 : y.mach = z.mach <;> by_cases q2 : y.day = z.day <;> by_cases q3 : y.unit.toList = z.unit.toList <;> simp [q0, q1, q2, q3] at hs ⊢ <;> exact hs)
      refine hK _ _ ?_; clear hK K'; refine pl ?_; clear Z13 Z14; refine lx [85] ?_; clear Z2 Z3 Z8 Z9 Z11 Z12 Z62 Z63 Z64; intro s112 Z2 Z3 Z8 Z9 Z11 Z12 Z62 Z63 Z64 Z85; have h9 := (ent_eqv _ _).1 Hxy.out
      replace Z85 : s112 85 = .bool true := by rw [Z85]; simp [h9.1, h9.2.1, h9.2.2.1, h9.2.2.2]
      clear h9; refine cal (must_ok 5 _) ?_; rintro e w' ⟨rfl, rfl⟩; refine ⟨_, rfl, ?_⟩; clear Z85; refine lx [] ?_; clear Z2 Z3 Z8 Z9 Z11 Z12 Z62 Z63 Z64; intro s114 Z2 Z3 Z8 Z9 Z11 Z12 Z62 Z63 Z64; refine lr ?_; intros; refine pl ?_; have cb12 := clx Y12; refine P2 ?_; refine listF_step rfl (fun K' hK => ?_); refine opF_put (T := 102) (kt := 104) (E := 65) (kv := kvM) (.tmp 87) (.tmp 88) (.tmp 89) rfl KM Tryz.underlying102 hmp (by omega) (fun x y h => by obtain ⟨x1, x2⟩ := x; obtain ⟨y1, y2⟩ := y; simpa [kvM] using h) (y.mach, y.num) (by go_simp) (by go_simp) hky (fun w115 hm2 hb116 => hK _ _ ?_); clear hK K'
      have hm3 : MapV Tryz.prog 104 kvM w115 bm (i + 1) (fun k => (lookE (all.take (i + 1)) k).map entV) := by have e : (fun k => (lookE (all.take (i + 1)) k).map entV) = (fun k => if k = (y.mach, y.num) then some (entV y) else (lookE (all.take i) k).map entV) := (by funext k; rw [Htk.out, lookE_snoc]; split <;> rfl); rw [e]; simpa using hm2
      clear hm2 hmp; clear cb11 cb12 cb13; clear Q2 Q3 Q11 Q12 Q13; replace hr8 := Rd.oldB hr8 hb116 XW47b; revert Y13 Y2 Y3 Y11 Y12 HB; refine uO hb116 ?_; clear hb116; intro Y13 Q13 Y2 Q2 Y3 Q3 Y11 Q11 Y12 Q12 HB; clear Z11 Z12; refine lx [] ?_; clear Z2 Z3 Z8 Z9 Z62 Z63 Z64; intro s117 Z2 Z3 Z8 Z9 Z62 Z63 Z64; refine lr ?_; intros; refine P2 ?_; clear Z64; refine lx [64] ?_; clear Z2 Z3 Z8 Z9 Z62 Z63; intro s118 Z2 Z3 Z8 Z9 Z62 Z63 Z64; refine ln ?_; intros
      rw [← Hay.out] at Z62; refine ⟨_, _, rfl, ?_, i + 1, rfl, (rL Z64), sh, sh, sh, sh, sh, sh, HB.out, by omega, Y2, Y3, hr8, hm3, hid (by rw [Htk.out]; exact noConf_was hnc.out Hlk.out Hxy.out)⟩
      omega
     ·skip
      have Hxy := hid hxy; clear hxy; refine region_yield (k := 7) (by kernel_rfl) ?_
      simp only [List.take_succ_cons, List.take_zero, List.drop_succ_cons, List.drop_zero]
      refine P3 ?_
      have cb11 := clx Y11; refine py ?_; have cb13 := clx Y13; refine py ?_; refine listF_yes rfl rfl (by decide) ?_ (fun K' hK => ?_); (focus (go_simp; done)); unfold opF; go_simp
      suffices hs : K' (.bool (decide (y.num = z.num ∧ y.mach = z.mach ∧ y.day = z.day ∧ y.unit.toList = z.unit.toList))) w107 by (by_cases q0 : y.num = z.num <;> by_cases q1 : y.mach = z.mach <;> by_cases q2 : y.day = z.day <;> by_cases q3 : y.unit.toList = z.unit.toList <;> simp [q0, q1, q2, q3] at hs ⊢ <;> exact hs)
      refine hK _ _ ?_; clear hK K'; refine pl ?_; clear Z13 Z14; refine lx [82,83,84,85] ?_; clear Z2 Z3 Z8 Z9 Z11 Z12 Z62 Z63 Z64; intro s121 Z2 Z3 Z8 Z9 Z11 Z12 Z62 Z63 Z64 Z82 Z83 Z84 Z85; refine lsn ?_
      replace Z85 : s121 85 = .bool false := by rw [Z85]; congr 1; rw [Bool.eq_false_iff]; intro h; simp at h; exact Hxy.out ((ent_eqv _ _).2 ⟨h.1, h.2.1, h.2.2.1, h.2.2.2⟩)
      have e9 := Hr.out.symm.trans (merge_bad (merge_conf (by simpa using h8) hokA (by rw [← Hall.out]; exact conf_at hk Hy.out Hlk.out Hxy.out)) (by decide))
      obtain ⟨rfl, rfl⟩ : R = [] ∧ er = 5 := by simpa using e9
      refine callpan_in (ch := [{ v := .iface 30 (.int .i64 5), recovered := false }]) (f := 54) (args := #[.bool false, .int .i64 5]) (by go_simp) ?_; refine (must_bad 5 _).mono ?_; rintro e9' w9 ⟨rfl, rfl⟩; refine ⟨rfl, ?_⟩; refine (rep_leave_pan (er := 5) (n := 93) (Ds := []) (by decide) Z2 Z3 (by simp) List.nodup_nil Y2 Y3 (by omega) (by simp) (by simp) (fun w' ho => ?_) : bodyPostM _ _ _ _ _ (.panic _) (mkA _ _ _) _); exact XW47d
   ·skip
    have hk : i = all.length := by have h := h65; simp at h; omega
    have HnC := hid (show NoConf all by have h := hnc.out; rwa [hk, List.take_length] at h); have e9 := Hr.out.symm.trans (merge_ok (by simpa using h8) hokA (by rw [← Hall.out]; exact HnC.out))
    obtain ⟨hR9, rfl⟩ : R = mergeS (xs.map SlE.l).flatten ∧ er = 0 := by simpa using e9
    have HRR := hid (show setL soonE all = R by rw [hR9, ← Hall.out]; rfl); clear hR9 e9
    refine zx ?_; intros
    clear hc2_2 hc2_3 hc2_8 hc2_9 hc2_62 hc2_63; refine region_F ?_; refine pl ?_; refine cal (sorted_ent a8 c8 all R _ hr8 hcl (fun z hz => entB_of (HzE.out z hz)) (fun m hp hs => by rw [comp_set (totE HnC.out) (fun _ h => h) hs (fun x => hp.mem_iff.symm)]; exact HRR.out)) ?_; rintro e w124 ⟨a92, c92, rfl, hr92, hf92, hb125⟩; have H92 := hid (show ∀ b, a92 = some b → B2 < b.block ∧ B3 < b.block ∧ w.heap.size ≤ b.block from fun b hb => by have := hf92 b hb; have := HB.out.size; omega); clear hf92; refine ⟨_, rfl, ?_⟩; clear Q2 Q3; replace hr8 := Rd.at hr8 hb125; replace hmp := MapV.at hmp hb125; revert HB; revert Y3; revert Y2; refine uA hb125 ?_; clear hb125; intro Y2 Q2 Y3 Q3 HB; clear hr8 hmp; have cb2_0 := Y2.cell 0 rfl; have zb2 := Y2.2.2; refine pl ?_; refine sto Y2 ?_; clear Y2 cb2_0 zb2; intro w126 Y2 hb127; clear Q2 Q3; replace hr92 := Rd.oldB hr92 hb127 (fun b hb => by have := H92.out b hb; simp; omega); revert Y3 HB; refine uO hb127 ?_; clear hb127; intro Y3 Q3 HB; have Q2 := Y2.1; have cb3_0 := Y3.cell 0 rfl; have zb3 := Y3.2.2; refine pl ?_; refine sto Y3 ?_; clear Y3 cb3_0 zb3; intro w128 Y3 hb129; clear Q2 Q3; replace hr92 := Rd.oldB hr92 hb129 (fun b hb => by have := H92.out b hb; simp; omega); revert Y2 HB; refine uO hb129 ?_; clear hb129; intro Y2 Q2 HB; have Q3 := Y3.1; clear Z8 Z9 Z62 Z63 Z64 Z65; refine lx [] ?_; clear Z2 Z3; intro s130 Z2 Z3; refine ln ?_; intros
    refine rep_leave_ret (n := 93) (Ds := []) (B8 := B2) (B9 := B3) (v := .slice a92 R.length c92) (e := 0) (by decide) Z2 Z3 (by simp) List.nodup_nil Y2 Y3 (by simp) (by simp) rfl ?_; exact ⟨a92, c92, rfl, hr92, fun b hb => (H92.out b hb).2.2, HB.out.toBelow⟩
 ·skip
  refine region_yield (k := 3) (by kernel_rfl) ?_
  simp only [List.take_succ_cons, List.take_zero, List.drop_succ_cons, List.drop_zero]
  refine P3 ?_
  clear Z15; refine lx [18] ?_; clear Z0 Z2 Z3; intro s131 Z0 Z2 Z3 Z18; refine lsn ?_
  replace Z18 : s131 18 = .bool false := by rw [Z18]; simp; omega
  have e9 := Hr.out.symm.trans (merge_bad (merge_many (by simpa using Nat.lt_of_not_le h8)) (by decide))
  obtain ⟨rfl, rfl⟩ : R = [] ∧ er = 3 := by simpa using e9
  refine XW47e ?_; refine (must_bad 3 _).mono ?_; rintro e9' w9 ⟨rfl, rfl⟩; refine ⟨rfl, ?_⟩; refine (rep_leave_pan (er := 3) (n := 93) (Ds := []) (by decide) Z2 Z3 (by simp) List.nodup_nil Y2 Y3 (by omega) (by simp) (by simp) (fun w' ho => ?_) : bodyPostM _ _ _ _ _ (.panic _) (mkA _ _ _) _); exact XW47d
end

section
open Go.RowKit

/-- what Suspects answers -/
def susR (l : List Ent) (days many : Int) : List Unt × Int :=
  if mergeErr [l] ≠ 0 then ([], mergeErr [l]) else if inI days 1 40001 = false ∨ inI many 1 60 = false then ([], 7) else (susS l days many.toNat, 0)
theorem merge_zero {fs : List (List Ent)} (h : mergeErr fs = 0) : NoConf fs.flatten ∧ ∀ f ∈ fs, fileErr f = 0 := by
  unfold mergeErr at h
  split at h
  · cases h
  · split at h
    · rename_i h1; exact absurd h h1
    · rename_i h1
      split at h
      · rename_i h2
        refine ⟨h2, fun f hf => ?_⟩
        have h3 : filesErr fs = 0 := Decidable.not_not.1 h1
        unfold filesErr at h3
        cases hx : fs.find? (fun f => fileErr f != 0) with
        | none => have := List.find?_eq_none.1 hx f hf; simpa using this
        | some y => rw [hx] at h3; have := List.find?_some hx; simp at h3 this; exact absurd h3 this
      · cases h
theorem merge_one {l : List Ent} (h : mergeErr [l] = 0) : mergeR [l] = (mergeS l, 0) ∧ NoConf l ∧ l.length ≤ 60 ∧ ∀ x ∈ l, entErr x = 0 := by
  obtain ⟨h1, h2⟩ := merge_zero h
  have e : [l].flatten = l := by simp
  rw [e] at h1
  refine ⟨?_, h1, file_all (h2 l (by simp))⟩
  unfold mergeR; rw [h, if_neg (by decide), e]
theorem sus_bad {l : List Ent} {days many e : Int} (h : mergeErr [l] = e) (he : e ≠ 0) : susR l days many = ([], e) := by unfold susR; rw [h, if_pos he]
theorem sus_bad2 {l : List Ent} {days many : Int} (h : mergeErr [l] = 0) (he : inI days 1 40001 = false ∨ inI many 1 60 = false) : susR l days many = ([], 7) := by unfold susR; rw [h, if_neg (by decide), if_pos he]
theorem sus_ok {l : List Ent} {days : Int} {many : Nat} (h : mergeErr [l] = 0) (h1 : inI days 1 40001 = true) (h2 : inI (many : Int) 1 60 = true) : susR l days many = (susS l days many, 0) := by
  unfold susR; rw [h, if_neg (by decide), if_neg (by simp [h1, h2]), Int.toNat_natCast]
/-- the units that the program collects, sorted and each once -/
theorem units_set {l : List Ent} {days : Int} {many : Nat} (hc : NoConf l) (hm : 1 ≤ many) : setL uLess (pU (mergeS l) days many (mergeS l).length) = susS l days many := by
  unfold susS
  refine setL_same totU (fun _ _ => trivial) (fun u => ?_)
  rw [units_mem hc hm u]
  exact (setL_ok totU (fun _ _ => trivial)).2 u
theorem sorted_units {l : List Ent} {days : Int} {many : Nat} (hc : NoConf l) (hm : 1 ≤ many) {m : List Unt} (hp : m.Perm (pU (mergeS l) days many (mergeS l).length)) (hs : m.Pairwise (fun x y => uLess y x = false)) : compL m = susS l days many := by
  rw [comp_set totU (fun _ _ => trivial) hs (fun x => hp.mem_iff.symm), units_set hc hm]
end


end Go.Proofs.YtleknidlgmmgbaaGreat
