/- The program: Merge. -/
import Derived.Test.YtleknidlgmmgbaaGreattsW45
import Derived.Test.YtleknidlgmmgbaaGreattsCZ
set_option linter.all false
namespace Go.Proofs.YtleknidlgmmgbaaGreat

open Go.RowKit


theorem cat_le {xs : List SlE} (h : ∀ j (hj : j < xs.length), xs[j].l.length ≤ 60) : ∀ i, i ≤ xs.length → (catE xs i).length ≤ 60 * i
  | 0, _ => by unfold catE; simp
  | i + 1, hi => by
    have := cat_le h i (by omega); rw [catE_succ (by omega), List.length_append]; have := h i (by omega)
    omega
theorem zeroEnt (w : World) : (zeroValue 65).run Tryz.prog w = .ok (.agg #[.int .i64 0, .int .i64 0, .int .i64 0, .string ByteArray.empty]) w := by kernel_rfl
theorem ent_eqv (x y : Ent) : x = y ↔ x.num = y.num ∧ x.mach = y.mach ∧ x.day = y.day ∧ x.unit.toList = y.unit.toList := eq_ent x y

theorem XW43b {A : Prop} (e : A := by exact (fun b hb => by have := H8.out b hb; simp; omega)) : A := e
theorem XW43c {A B1 : Prop} (hX1 : B1) (e : B1 → A := by intro hX1; exact callpan_in (ch := [{ v := .iface 30 (.int .i64 7), recovered := false }]) (f := 54) (args := #[.bool false, .int .i64 7]) (by go_simp) hX1) : A := e hX1
theorem XW43d {A : Prop} (e : A := by exact ⟨none, 0, rfl, .inl rfl, (fun b hb => by cases hb), HB.out.toBelow.trans (OldB.lowN ho HB.out.size (by simp; omega))⟩) : A := e
theorem XW43e {A B1 : Prop} (hX1 : B1) (e : B1 → A := by intro hX1; exact callpan_in (ch := [{ v := .iface 30 (.int .i64 3), recovered := false }]) (f := 54) (args := #[.bool false, .int .i64 3]) (by go_simp) hX1) : A := e hX1
theorem XW43f {A B1 : Prop} (hX1 : B1) (e : B1 → A := by intro hX1; exact opF_look (d := 76) rfl (by decide) (.tmp 74) (.tmp 75) true rfl KM Tryz.underlying102 (zeroEnt _) hmp (y.mach, y.num) (by go_simp) (by go_simp) hky hX1) : A := e hX1
set_option maxRecDepth 100000 in
set_option maxHeartbeats 32000000 in
theorem merge_v (a : Option Addr) (c : Nat) (xs : List SlE) (R : List Ent) (er : Int) (w : World) (hR : RdSlE w a xs) (hE : ∀ x ∈ xs, RdEn w x.a x.l) (hlx : xs.length ≤ 9223372036854775807) (hlx2 : ∀ x ∈ xs, x.l.length ≤ 9223372036854775807) (hun : ∀ x ∈ xs, ∀ y ∈ x.l, y.unit.size ≤ 9223372036854775807) (hr : mergeR (xs.map SlE.l) = (R, er)) :
    Calls Tryz.prog 19 #[.slice a xs.length c] w (fun e w' => ∃ a' c', e = .returned (.tuple #[.slice a' R.length c', .int .i64 er]) ∧ RdEn w' a' R ∧ (∀ b, a' = some b → w.heap.size ≤ b.block) ∧ Below w.heap.size w w') := by
 have hmf := hmf; have HR := hid hR; have HE := hid hE; have Hr := hid hr; clear hR hE hr; have Hun := hid hun; clear hun; refine enterM_F Tryz.func19 rfl Tryz.ntmps19 (by simp) ?_; intro s0 hs; have sl0 : s0 0 = .slice a xs.length c := hs 0 (by simp); clear hs; have HB := hid (OldB.refl [] w)
 refine nr ?_; intros; refine pa (fun w1 B2 hB kb2 hb2 => ?_); have gb2 := HB.out.gB hB; have eb2 := eB hB; clear hB; replace HB := bE HB hb2; clear hb2; have qb2 := kb2.1; refine pa (fun w3 B3 hB kb3 hb4 => ?_); have gb3 := HB.out.gB hB; have ob2_b3 := oB qb2 hB; have eb3 := eB hB; clear hB; clear qb2; revert HB; revert kb2; refine uA hb4 ?_; clear hb4; intro kb2 qb2 HB; have qb3 := kb3.1; refine lx [2,3] ?_; clear sl0; intro s5 sl0 sl2 sl3; refine ln ?_; intros
 refine region_yield (k := 1) (by kernel_rfl) ?_
 simp only [List.take_succ_cons, List.take_zero, List.drop_succ_cons, List.drop_zero]
 refine pl ?_; refine lx [15] ?_; clear sl0 sl2 sl3; intro s6 sl0 sl2 sl3 sl15; refine lsn ?_; refine defer_in (d := repD B2 B3) (w' := w3) (by unfold Oper.semAt; go_simp; rfl) ?_; refine wpListIn_nil ?_; clear hmf
 refine zx ?_; intros
 by_cases h8 : xs.length ≤ 8
 ·skip
  refine region_F ?_
  refine P3 ?_
  clear sl15; refine lx [18] ?_; clear sl0 sl2 sl3; intro s9 sl0 sl2 sl3 sl18
  replace sl18 : s9 18 = .bool true := by rw [sl18]; simp; omega
  refine cal (must_ok 3 _) ?_; rintro e w' ⟨rfl, rfl⟩; refine ⟨_, rfl, ?_⟩; clear sl18; refine lx [] ?_; clear sl0 sl2 sl3; intro s11 sl0 sl2 sl3; refine lr ?_; intros
  refine P3 ?_
  refine lx [20,21,22] ?_; clear sl0 sl2 sl3; intro s12 sl0 sl2 sl3 sl20 sl21 sl22; refine ln ?_; intros
  have hc0_0 := hid sl0; have hc0_2 := hid sl2; have hc0_3 := hid sl3; have hc0_20 := hid sl20; have hc0_21 := hid sl21; refine loop_F (n := 93) (fun kJ sJ wJ => ∃ (i : Nat), kJ = xs.length - i ∧ sJ 22 = .int .i64 (i : Int) ∧ sJ 0 = s12 0 ∧ sJ 2 = s12 2 ∧ sJ 3 = s12 3 ∧ sJ 20 = s12 20 ∧ sJ 21 = s12 21 ∧ OldB [] w3 wJ ∧ i ≤ xs.length ∧ (Hid (∀ j (hj : j < xs.length), j < i → fileErr xs[j].l = 0))) ⟨0, rfl, (by first | exact sl22 | (rw [sl22]; go_num) | (rw [sl22]; rfl)), rfl, rfl, rfl, rfl, rfl, OldB.refl _ _, Nat.zero_le _, hid (fun j hj h => by omega)⟩ ?_; clear sl22; rintro kJ s13 w14 ⟨i, rfl, sl22, e0, e2, e3, e20, e21, hb15, hil, hok⟩; replace sl0 := e0.trans sl0; clear e0; replace sl2 := e2.trans sl2; clear e2; replace sl3 := e3.trans sl3; clear e3; replace sl20 := e20.trans sl20; clear e20; replace sl21 := e21.trans sl21; clear e21; have hoJ := hb15; clear qb2 qb3; revert HB; revert kb3; revert kb2; refine uO hb15 ?_; clear hb15; intro kb2 qb2 kb3 qb3 HB; have HoJ := hid hoJ; clear hoJ; have HL16 := HoJ; clear HoJ
  refine nr ?_; intros; refine pl ?_; refine lx [23] ?_; clear sl0 sl2 sl3 sl20 sl21 sl22; intro s17 sl0 sl2 sl3 sl20 sl21 sl22 sl23; refine ln ?_; intros
  refine cond_E sl23 (by decide) ?_ ?_ <;> (clear sl23; intro h23 sl23)
  ·skip
   have hi : i < xs.length := by simpa using h23
   have hii : (i : Int) < xs.length := by omega
   obtain ⟨bx, ox, hax, hbx, cx⟩ := RdSlE.ne (Rd.oldB HR.out HB.out (by simp)) hi; subst hax; obtain ⟨x, hx⟩ : ∃ x, xs[i] = x := ⟨_, rfl⟩; rw [hx] at cx; have Hx := hid hx
   have hxm : x ∈ xs := by rw [← hx]; exact List.getElem_mem hi
   have hxl := hlx2 x hxm; clear hx
   have him : i < (xs.map SlE.l).length := by simpa using hi
   have Hxm := hid (show (xs.map SlE.l)[i] = x.l by rw [List.getElem_map, Hx.out])
   have hokm : ∀ j (hj : j < (xs.map SlE.l).length), j < i → fileErr (xs.map SlE.l)[j] = 0 := fun j hj h => by rw [List.getElem_map]; exact hok.out j (by simpa using hj) h
   refine nr ?_; intros
   refine P3 ?_
   clear sl23; refine lx [5] ?_; clear sl0 sl2 sl3 sl20 sl21 sl22; intro s18 sl0 sl2 sl3 sl20 sl21 sl22 sl5; refine ln ?_; intros
   by_cases h60 : x.l.length ≤ 60
   ·skip
    refine region_F ?_
    refine P3 ?_
    refine lx [28] ?_; clear sl0 sl2 sl3 sl5 sl20 sl21 sl22; intro s19 sl0 sl2 sl3 sl5 sl20 sl21 sl22 sl28
    replace sl28 : s19 28 = .bool true := by rw [sl28]; simp; omega
    refine cal (must_ok 3 _) ?_; rintro e w' ⟨rfl, rfl⟩; refine ⟨_, rfl, ?_⟩; clear sl28; refine lx [] ?_; clear sl0 sl2 sl3 sl5 sl20 sl21 sl22; intro s21 sl0 sl2 sl3 sl5 sl20 sl21 sl22; refine lr ?_; intros
    refine P3 ?_
    clear sl5; refine lx [30,31,32] ?_; clear sl0 sl2 sl3 sl20 sl21 sl22; intro s22 sl0 sl2 sl3 sl20 sl21 sl22 sl30 sl31 sl32; refine ln ?_; intros
    have hc1_0 := hid sl0; have hc1_2 := hid sl2; have hc1_3 := hid sl3; have hc1_20 := hid sl20; have hc1_21 := hid sl21; have hc1_22 := hid sl22; have hc1_30 := hid sl30; have hc1_31 := hid sl31; refine loop_F (n := 93) (fun kJ sJ wJ => ∃ (k : Nat), kJ = x.l.length - k ∧ sJ 32 = .int .i64 (k : Int) ∧ sJ 0 = s22 0 ∧ sJ 2 = s22 2 ∧ sJ 3 = s22 3 ∧ sJ 20 = s22 20 ∧ sJ 21 = s22 21 ∧ sJ 22 = s22 22 ∧ sJ 30 = s22 30 ∧ sJ 31 = s22 31 ∧ OldB [] w14 wJ ∧ k ≤ x.l.length ∧ (Hid (∀ j (hj : j < x.l.length), j < k → entErr x.l[j] = 0))) ⟨0, rfl, (by first | exact sl32 | (rw [sl32]; go_num) | (rw [sl32]; rfl)), rfl, rfl, rfl, rfl, rfl, rfl, rfl, rfl, OldB.refl _ _, Nat.zero_le _, hid (fun j hj h => by omega)⟩ ?_; clear sl32; rintro kJ s23 w24 ⟨k, rfl, sl32, e0, e2, e3, e20, e21, e22, e30, e31, hb25, hkl, Hok2⟩; replace sl0 := e0.trans sl0; clear e0; replace sl2 := e2.trans sl2; clear e2; replace sl3 := e3.trans sl3; clear e3; replace sl20 := e20.trans sl20; clear e20
    replace sl21 := e21.trans sl21; clear e21; replace sl22 := e22.trans sl22; clear e22; replace sl30 := e30.trans sl30; clear e30; replace sl31 := e31.trans sl31; clear e31; have hoJ := hb25; clear qb2 qb3; revert HB; revert HL16; revert kb3; revert kb2; refine uO hb25 ?_; clear hb25; intro kb2 qb2 kb3 qb3 HL16 HB; have HoJ := hid hoJ; clear hoJ; have HL26 := HoJ; clear HoJ
    refine nr ?_; intros; refine pl ?_; refine lx [33] ?_; clear sl0 sl2 sl3 sl20 sl21 sl22 sl30 sl31 sl32; intro s27 sl0 sl2 sl3 sl20 sl21 sl22 sl30 sl31 sl32 sl33; refine ln ?_; intros
    refine cond_E sl33 (by decide) ?_ ?_ <;> (clear sl33; intro h33 sl33)
    ·skip
     have hk : k < x.l.length := by simpa using h33
     have hkk : (k : Int) < x.l.length := by omega
     obtain ⟨by1, oy1, hay, hby, c0, c1, c2, c3⟩ := RdEn.ne (Rd.oldB (HE.out x hxm) HB.out (by simp)) hk; obtain ⟨y, hy⟩ : ∃ y, x.l[k] = y := ⟨_, rfl⟩; rw [hy] at c0 c1 c2 c3; have Hy := hid hy; have hyu := Hun.out x hxm y (by rw [← hy]; exact List.getElem_mem hk); clear hy; have Hay := hid hay; clear hay; rw [Hay.out] at sl30
     refine nr ?_; intros; refine P2 ?_; refine pa (fun w28 B7 hB kb7 hb29 => ?_); have gb7 := HB.out.gB hB; have lHL16_b7 := HL16.out.gB hB; have lHL26_b7 := HL26.out.gB hB; have ob2_b7 := oB qb2 hB; have ob3_b7 := oB qb3 hB; have eb7 := eB hB; clear hB; clear qb2 qb3; revert HB; revert HL26; revert HL16; revert kb3; revert kb2; refine uA hb29 ?_; clear hb29; intro kb2 qb2 kb3 qb3 HL16 HL26 HB; have qb7 := kb7.1; have cb7 := clx kb7; have zb7 := kb7.2.2; refine pl ?_; refine sto kb7 ?_; clear kb7 cb7 zb7; intro w30 kb7 hb31; clear qb2 qb3 qb7; revert HB; revert HL26; revert HL16; revert kb3; revert kb2; refine uO hb31 ?_; clear hb31; intro kb2 qb2 kb3 qb3 HL16 HL26 HB; have qb7 := kb7.1; clear sl33; refine lx [7] ?_; clear sl0 sl2 sl3 sl20 sl21 sl22 sl30 sl31 sl32; intro s32 sl0 sl2 sl3 sl20 sl21 sl22 sl30 sl31 sl32 sl7; refine ln ?_; intros
     rcases ent_cases y with hb | ⟨hn1, hb⟩ | ⟨hn1, hn2, hb⟩ | ⟨hn1, hn2, hn3⟩
     ·skip
      refine region_yield (k := 16) (by kernel_rfl) ?_
      simp only [List.take_succ_cons, List.take_zero, List.drop_succ_cons, List.drop_zero]
      refine pl ?_; have cb7 := clx kb7; refine pl ?_; refine cal (tout_any y.num 1 1000000 _) ?_; rintro e w' ⟨rfl, rfl⟩; refine ⟨_, rfl, ?_⟩; refine P2 ?_
      refine F4 ?_; refine P2 ?_
      refine F4 ?_; refine pl ?_; refine lx [51] ?_; clear sl0 sl2 sl3 sl7 sl20 sl21 sl22 sl30 sl31 sl32; intro s34 sl0 sl2 sl3 sl7 sl20 sl21 sl22 sl30 sl31 sl32 sl51; refine lsn ?_
      replace sl51 : s34 51 = .bool false := by rw [sl51]; (try rfl)
      have e9 := Hr.out.symm.trans (merge_bad (merge_ent (by simpa using h8) him hokm Hxm.out h60 hk Hok2.out (show entErr _ = 7 by rw [Hy.out]; unfold entErr; rw [if_pos (.inl hb)]) (by decide)) (by decide))
      obtain ⟨rfl, rfl⟩ : R = [] ∧ er = 7 := by simpa using e9
      refine XW43c ?_; refine (must_bad 7 _).mono ?_; rintro e9' w9 ⟨rfl, rfl⟩; refine ⟨rfl, ?_⟩; refine (rep_leave_pan (er := 7) (n := 93) (Ds := []) (by decide) sl2 sl3 (by simp) List.nodup_nil kb2 kb3 (by omega) (by simp) (by simp) (fun w' ho => ?_) : bodyPostM _ _ _ _ _ (.panic _) (mkA _ _ _) _); exact XW43d
     ·skip
      refine region_yield (k := 16) (by kernel_rfl) ?_
      simp only [List.take_succ_cons, List.take_zero, List.drop_succ_cons, List.drop_zero]
      refine pl ?_; have cb7 := clx kb7; refine pl ?_; refine cal (tout_any y.num 1 1000000 _) ?_; rintro e w' ⟨rfl, rfl⟩; refine ⟨_, rfl, ?_⟩; refine P2 ?_; refine py ?_; refine py ?_; refine listF_yes rfl rfl (by decide) ?_ (fun K' hK => ?_); (focus (go_simp; done)); unfold opF; go_simp; refine (tout_any y.mach 1 2 _).mono ?_; rintro e w' ⟨rfl, rfl⟩; refine ⟨_, rfl, hK _ _ ?_⟩; clear hK K'; refine py ?_; refine P2 ?_
      refine F4 ?_; refine pl ?_; refine lx [41,42,43,44,51] ?_; clear sl0 sl2 sl3 sl7 sl20 sl21 sl22 sl30 sl31 sl32; intro s39 sl0 sl2 sl3 sl7 sl20 sl21 sl22 sl30 sl31 sl32 sl41 sl42 sl43 sl44 sl51; refine lsn ?_
      replace sl51 : s39 51 = .bool false := by rw [sl51]; (try rfl)
      have e9 := Hr.out.symm.trans (merge_bad (merge_ent (by simpa using h8) him hokm Hxm.out h60 hk Hok2.out (show entErr _ = 7 by rw [Hy.out]; unfold entErr; rw [if_pos (.inr (.inl hb))]) (by decide)) (by decide))
      obtain ⟨rfl, rfl⟩ : R = [] ∧ er = 7 := by simpa using e9
      refine XW43c ?_; refine (must_bad 7 _).mono ?_; rintro e9' w9 ⟨rfl, rfl⟩; refine ⟨rfl, ?_⟩; refine (rep_leave_pan (er := 7) (n := 93) (Ds := []) (by decide) sl2 sl3 (by simp) List.nodup_nil kb2 kb3 (by omega) (by simp) (by simp) (fun w' ho => ?_) : bodyPostM _ _ _ _ _ (.panic _) (mkA _ _ _) _); exact XW43d
     ·skip
      refine region_yield (k := 16) (by kernel_rfl) ?_
      simp only [List.take_succ_cons, List.take_zero, List.drop_succ_cons, List.drop_zero]
      refine pl ?_; have cb7 := clx kb7; refine pl ?_; refine cal (tout_any y.num 1 1000000 _) ?_; rintro e w' ⟨rfl, rfl⟩; refine ⟨_, rfl, ?_⟩; refine P2 ?_; refine py ?_; refine py ?_; refine listF_yes rfl rfl (by decide) ?_ (fun K' hK => ?_); (focus (go_simp; done)); unfold opF; go_simp; refine (tout_any y.mach 1 2 _).mono ?_; rintro e w' ⟨rfl, rfl⟩; refine ⟨_, rfl, hK _ _ ?_⟩; clear hK K'; refine py ?_; refine P2 ?_; refine py ?_; refine py ?_; refine listF_yes rfl rfl (by decide) ?_ (fun K' hK => ?_); (focus (go_simp; done)); unfold opF; go_simp; refine (tout_any y.day 0 40000 _).mono ?_; rintro e w' ⟨rfl, rfl⟩; refine ⟨_, rfl, hK _ _ ?_⟩; clear hK K'; refine py ?_; refine pl ?_; refine lx [41,42,43,44,47,48,49,50,51] ?_; clear sl0 sl2 sl3 sl7 sl20 sl21 sl22 sl30 sl31 sl32; intro s45 sl0 sl2 sl3 sl7 sl20 sl21 sl22 sl30 sl31 sl32 sl41 sl42 sl43 sl44 sl47 sl48 sl49 sl50 sl51; refine lsn ?_
      replace sl51 : s45 51 = .bool false := by rw [sl51]; (try rfl)
      have e9 := Hr.out.symm.trans (merge_bad (merge_ent (by simpa using h8) him hokm Hxm.out h60 hk Hok2.out (show entErr _ = 7 by rw [Hy.out]; unfold entErr; rw [if_pos (.inr (.inr hb))]) (by decide)) (by decide))
      obtain ⟨rfl, rfl⟩ : R = [] ∧ er = 7 := by simpa using e9
      refine XW43c ?_; refine (must_bad 7 _).mono ?_; rintro e9' w9 ⟨rfl, rfl⟩; refine ⟨rfl, ?_⟩; refine (rep_leave_pan (er := 7) (n := 93) (Ds := []) (by decide) sl2 sl3 (by simp) List.nodup_nil kb2 kb3 (by omega) (by simp) (by simp) (fun w' ho => ?_) : bodyPostM _ _ _ _ _ (.panic _) (mkA _ _ _) _); exact XW43d
     ·skip
      refine region_F ?_; refine pl ?_; have cb7 := clx kb7; refine pl ?_; refine cal (tout_any y.num 1 1000000 _) ?_; rintro e w' ⟨rfl, rfl⟩; refine ⟨_, rfl, ?_⟩; refine P2 ?_; refine py ?_; refine py ?_; refine listF_yes rfl rfl (by decide) ?_ (fun K' hK => ?_); (focus (go_simp; done)); unfold opF; go_simp; refine (tout_any y.mach 1 2 _).mono ?_; rintro e w' ⟨rfl, rfl⟩; refine ⟨_, rfl, hK _ _ ?_⟩; clear hK K'; refine py ?_; refine P2 ?_; refine py ?_; refine py ?_; refine listF_yes rfl rfl (by decide) ?_ (fun K' hK => ?_); (focus (go_simp; done)); unfold opF; go_simp; refine (tout_any y.day 0 40000 _).mono ?_; rintro e w' ⟨rfl, rfl⟩; refine ⟨_, rfl, hK _ _ ?_⟩; clear hK K'; refine py ?_; refine pl ?_; refine lx [51] ?_; clear sl0 sl2 sl3 sl7 sl20 sl21 sl22 sl30 sl31 sl32; intro s51 sl0 sl2 sl3 sl7 sl20 sl21 sl22 sl30 sl31 sl32 sl51
      replace sl51 : s51 51 = .bool true := by rw [sl51]; (try rfl)
      refine cal (must_ok 7 _) ?_; rintro e w' ⟨rfl, rfl⟩; refine ⟨_, rfl, ?_⟩; clear sl51; refine lx [] ?_; clear sl0 sl2 sl3 sl7 sl20 sl21 sl22 sl30 sl31 sl32; intro s53 sl0 sl2 sl3 sl7 sl20 sl21 sl22 sl30 sl31 sl32; refine ln ?_; intros
      rcases Bool.eq_false_or_eq_true (nameOk y.unit) with hnm | hnm
      ·skip
       refine region_F ?_; refine P2 ?_; refine cal (lname_any y.unit _ hyu) ?_; rintro e w54 ⟨rfl, hb55⟩; refine ⟨_, rfl, ?_⟩; clear cb7; clear qb2 qb3 qb7; revert HB; revert HL26; revert HL16; revert kb7; revert kb3; revert kb2; refine uA hb55 ?_; clear hb55; intro kb2 qb2 kb3 qb3 kb7 qb7 HL16 HL26 HB; clear sl7; refine lx [55] ?_; clear sl0 sl2 sl3 sl20 sl21 sl22 sl30 sl31 sl32; intro s56 sl0 sl2 sl3 sl20 sl21 sl22 sl30 sl31 sl32 sl55
       replace sl55 : s56 55 = .bool true := by rw [sl55]; rw [hnm]
       refine cal (must_ok 6 _) ?_; rintro e w' ⟨rfl, rfl⟩; refine ⟨_, rfl, ?_⟩; clear sl55; refine lx [] ?_; clear sl0 sl2 sl3 sl20 sl21 sl22 sl30 sl31 sl32; intro s58 sl0 sl2 sl3 sl20 sl21 sl22 sl30 sl31 sl32; refine lr ?_; intros; refine P2 ?_; clear sl32; refine lx [32] ?_; clear sl0 sl2 sl3 sl20 sl21 sl22 sl30 sl31; intro s59 sl0 sl2 sl3 sl20 sl21 sl22 sl30 sl31 sl32; refine ln ?_; intros
       rw [← Hay.out] at sl30; refine ⟨_, _, rfl, ?_, k + 1, rfl, (rL sl32), (sl0.trans hc1_0.out.symm), (sl2.trans hc1_2.out.symm), (sl3.trans hc1_3.out.symm), (sl20.trans hc1_20.out.symm), (sl21.trans hc1_21.out.symm), (sl22.trans hc1_22.out.symm), (sl30.trans hc1_30.out.symm), (sl31.trans hc1_31.out.symm), HL26.out, by omega, hid (fun j hj h => by rcases Nat.lt_or_ge j k with h3 | h3 <;> first | exact Hok2.out j hj h3 | (have e : j = k := (by omega); subst e; rw [Hy.out]; exact entErr_zero.2 ⟨⟨hn1, hn2, hn3⟩, hnm⟩))⟩
       omega
      ·skip
       refine region_yield (k := 3) (by kernel_rfl) ?_
       simp only [List.take_succ_cons, List.take_zero, List.drop_succ_cons, List.drop_zero]
       refine P2 ?_; refine cal (lname_any y.unit _ hyu) ?_; rintro e w60 ⟨rfl, hb61⟩; refine ⟨_, rfl, ?_⟩; clear cb7; clear qb2 qb3 qb7; revert HB; revert HL26; revert HL16; revert kb7; revert kb3; revert kb2; refine uA hb61 ?_; clear hb61; intro kb2 qb2 kb3 qb3 kb7 qb7 HL16 HL26 HB; clear sl7; refine lx [55] ?_; clear sl0 sl2 sl3 sl20 sl21 sl22 sl30 sl31 sl32; intro s62 sl0 sl2 sl3 sl20 sl21 sl22 sl30 sl31 sl32 sl55; refine lsn ?_
       replace sl55 : s62 55 = .bool false := by rw [sl55]; rw [hnm]
       have e9 := Hr.out.symm.trans (merge_bad (merge_ent (by simpa using h8) him hokm Hxm.out h60 hk Hok2.out (show entErr _ = 6 by rw [Hy.out]; unfold entErr; rw [if_neg (by simp [hn1, hn2, hn3]), if_pos hnm]) (by decide)) (by decide))
       obtain ⟨rfl, rfl⟩ : R = [] ∧ er = 6 := by simpa using e9
       refine callpan_in (ch := [{ v := .iface 30 (.int .i64 6), recovered := false }]) (f := 54) (args := #[.bool false, .int .i64 6]) (by go_simp) ?_; refine (must_bad 6 _).mono ?_; rintro e9' w9 ⟨rfl, rfl⟩; refine ⟨rfl, ?_⟩; refine (rep_leave_pan (er := 6) (n := 93) (Ds := []) (by decide) sl2 sl3 (by simp) List.nodup_nil kb2 kb3 (by omega) (by simp) (by simp) (fun w' ho => ?_) : bodyPostM _ _ _ _ _ (.panic _) (mkA _ _ _) _); exact XW43d
    ·skip
     have hk : k = x.l.length := by have h := h33; simp at h; omega
     have Hfk := hid (show fileErr (xs[i]).l = 0 by rw [Hx.out]; exact file_ok h60 (fun j hj => Hok2.out j hj (by omega)))
     refine zx ?_; intros
     clear HL26; clear hc1_0 hc1_2 hc1_3 hc1_20 hc1_21 hc1_22 hc1_30 hc1_31; refine region_F ?_; refine P2 ?_; clear sl22 sl30 sl31 sl32 sl33; refine lx [22] ?_; clear sl0 sl2 sl3 sl20 sl21; intro s65 sl0 sl2 sl3 sl20 sl21 sl22; refine ln ?_; intros
     refine ⟨_, _, rfl, ?_, i + 1, rfl, (rL sl22), (sl0.trans hc0_0.out.symm), (sl2.trans hc0_2.out.symm), (sl3.trans hc0_3.out.symm), (sl20.trans hc0_20.out.symm), (sl21.trans hc0_21.out.symm), HL16.out, by omega, hid (fun j hj h => by rcases Nat.lt_or_ge j i with h3 | h3 <;> first | exact hok.out j hj h3 | (have e : j = i := (by omega); subst e; exact Hfk.out))⟩
     omega
   ·skip
    refine region_yield (k := 3) (by kernel_rfl) ?_
    simp only [List.take_succ_cons, List.take_zero, List.drop_succ_cons, List.drop_zero]
    refine P3 ?_
    refine lx [28] ?_; clear sl0 sl2 sl3 sl5 sl20 sl21 sl22; intro s66 sl0 sl2 sl3 sl5 sl20 sl21 sl22 sl28; refine lsn ?_
    replace sl28 : s66 28 = .bool false := by rw [sl28]; simp; omega
    have e9 := Hr.out.symm.trans (merge_bad (merge_file (by simpa using h8) him hokm (show fileErr _ = 3 by rw [Hxm.out]; unfold fileErr; rw [if_pos (by omega)]) (by decide)) (by decide))
    obtain ⟨rfl, rfl⟩ : R = [] ∧ er = 3 := by simpa using e9
    refine XW43e ?_; refine (must_bad 3 _).mono ?_; rintro e9' w9 ⟨rfl, rfl⟩; refine ⟨rfl, ?_⟩; refine (rep_leave_pan (er := 3) (n := 93) (Ds := []) (by decide) sl2 sl3 (by simp) List.nodup_nil kb2 kb3 (by omega) (by simp) (by simp) (fun w' ho => ?_) : bodyPostM _ _ _ _ _ (.panic _) (mkA _ _ _) _); exact XW43d
  ·skip
   have hi : i = xs.length := by have h := h23; simp at h; omega
   have hokA : ∀ j (hj : j < (xs.map SlE.l).length), fileErr (xs.map SlE.l)[j] = 0 := fun j hj => by rw [List.getElem_map]; exact hok.out j (by simpa using hj) (by have : j < xs.length := (by simpa using hj); omega)
   have hcl : (catE xs xs.length).length ≤ 1000 := by have := cat_le (xs := xs) (fun j hj => (file_all (hok.out j hj (by omega))).1) xs.length (Nat.le_refl _); omega
   refine zx ?_; intros
   clear HL16; clear hc0_0 hc0_2 hc0_3 hc0_20 hc0_21; refine region_F ?_; refine pl ?_; refine cal (concatE_any a c xs _ (Rd.oldB HR.out HB.out (by simp)) (fun x hx => Rd.oldB (HE.out x hx) HB.out (by simp)) hcl (by omega)) ?_; rintro e w69 ⟨v8, rfl, hO8, hb70⟩; obtain ⟨a8, c8, rfl, hr8, hn8⟩ := Own.slice (f := Ent.cs) (m := 4) (fun _ => rfl) hO8; obtain ⟨all, hall⟩ : ∃ l, catE xs xs.length = l := ⟨_, rfl⟩
   have hlt8 : ∀ b, a8 = some b → b.block < w69.heap.size := fun b hb => (World.ownsRow.lt hO8 b.block (by rw [hb]; rfl)).2
   rw [hall] at hr8 hcl; rw [hall]; have Hall := hid (show all = (xs.map SlE.l).flatten by rw [← hall]; exact catE_flat xs); clear hO8 hn8; refine ⟨_, rfl, ?_⟩; clear qb2 qb3; revert HB; revert kb3; revert kb2; refine uA hb70 ?_; clear hb70; intro kb2 qb2 kb3 qb3 HB; refine pl ?_; clear sl0 sl20 sl21 sl22 sl23; refine lx [8] ?_; clear sl2 sl3; intro s71 sl2 sl3 sl8; refine lr ?_; intros; have HzE := hid (show ∀ z ∈ all, entErr z = 0 from fun z hz => by rw [Hall.out] at hz; obtain ⟨l9, h9, hz9⟩ := List.mem_flatten.1 hz; obtain ⟨j, hj, rfl⟩ := List.mem_iff_getElem.1 h9; exact (file_all (hokA j hj)).2 z hz9); obtain ⟨bm, hbm⟩ : ∃ b, b = w69.heap.size := ⟨_, rfl⟩; have gbm := HB.out.gB hbm; have ob2_bm := oB qb2 hbm; have ob3_bm := oB qb3 hbm; have H8 := hid (show ∀ b, a8 = some b → b.block < bm from fun b hb => by have := hlt8 b hb; omega); clear hlt8; refine listF_step rfl (fun K' hK => ?_); refine opF_makeMap (d := 61) (T := 102) (kt := 104) (kv := kvM) rfl (by decide) rfl (fun w72 hmp hb73 => hK _ _ ?_); clear hK K'; rw [← hbm] at hmp
   (try rw [← hbm])
   have lbm := hmp.lt; clear hbm; clear qb2 qb3; replace hr8 := Rd.at hr8 hb73; revert HB; revert kb3; revert kb2; refine uA hb73 ?_; clear hb73; intro kb2 qb2 kb3 qb3 HB; refine pl ?_; refine lx [9] ?_; clear sl2 sl3 sl8; intro s74 sl2 sl3 sl8 sl9; refine lr ?_; intros
   refine P3 ?_
   refine lx [62,63,64] ?_; clear sl2 sl3 sl8 sl9; intro s75 sl2 sl3 sl8 sl9 sl62 sl63 sl64; refine ln ?_; intros
   clear qb2 qb3; have hc2_2 := hid sl2; have hc2_3 := hid sl3; have hc2_8 := hid sl8; have hc2_9 := hid sl9; have hc2_62 := hid sl62; have hc2_63 := hid sl63; refine loop_F (n := 93) (fun kJ sJ wJ => ∃ (i : Nat), kJ = all.length - i ∧ sJ 64 = .int .i64 (i : Int) ∧ sJ 2 = s75 2 ∧ sJ 3 = s75 3 ∧ sJ 8 = s75 8 ∧ sJ 9 = s75 9 ∧ sJ 62 = s75 62 ∧ sJ 63 = s75 63 ∧ OldB [] w wJ ∧ i ≤ all.length ∧ Cells wJ B2 [.slice none 0 0] ∧ Cells wJ B3 [.int .i64 0] ∧ RdEn wJ a8 all ∧ MapV Tryz.prog 104 kvM wJ bm i (fun k => (lookE (all.take i) k).map entV) ∧ Hid (NoConf (all.take i))) ⟨0, rfl, (by first | exact sl64 | (rw [sl64]; go_num) | (rw [sl64]; rfl)), rfl, rfl, rfl, rfl, rfl, rfl, HB.out, Nat.zero_le _, kb2, kb3, hr8, hmp, hid (fun a ha => by simp at ha)⟩ ?_; clear sl64 kb2 kb3 hr8 hmp HB; rintro kJ s76 w77 ⟨i, rfl, sl64, e2, e3, e8, e9, e62, e63, HB', hil, k2x, k3x, hr8, hmp, hnc⟩; replace sl2 := e2.trans sl2; clear e2
   replace sl3 := e3.trans sl3; clear e3; replace sl8 := e8.trans sl8; clear e8; replace sl9 := e9.trans sl9; clear e9; replace sl62 := e62.trans sl62; clear e62; replace sl63 := e63.trans sl63; clear e63; have HB := hid HB'; clear HB'; have kb2 := k2x; clear k2x; have qb2 := kb2.1; have kb3 := k3x; clear k3x; have qb3 := kb3.1; have lbm := hmp.lt
   refine nr ?_; intros; refine pl ?_; refine lx [65] ?_; clear sl2 sl3 sl8 sl9 sl62 sl63 sl64; intro s78 sl2 sl3 sl8 sl9 sl62 sl63 sl64 sl65; refine ln ?_; intros
   refine cond_E sl65 (by decide) ?_ ?_ <;> (clear sl65; intro h65 sl65)
   ·skip
    have hk : i < all.length := by simpa using h65
    have hkk : (i : Int) < all.length := by omega
    obtain ⟨by1, oy1, hay, hby, c0, c1, c2, c3⟩ := RdEn.ne hr8 hk; obtain ⟨y, hy⟩ : ∃ y, all[i] = y := ⟨_, rfl⟩; rw [hy] at c0 c1 c2 c3; have Hy := hid hy; have Htk := hid (show all.take (i + 1) = all.take i ++ [y] by rw [List.take_succ_eq_append_getElem hk, hy]); have HyB := hid (entB_of (HzE.out y (by rw [← hy]; exact List.getElem_mem hk))); have Hay := hid hay; clear hay hy; rw [Hay.out] at sl62; obtain ⟨kl, hky⟩ := keyM (a := y.mach) (b := y.num) (wf_of (by have := HyB.out.2.1; omega) (by have := HyB.out.2.1; omega)) (wf_of (by have := HyB.out.1; omega) (by have := HyB.out.1; omega))
    refine nr ?_; intros; refine P2 ?_; refine pa (fun w79 B11 hB kb11 hb80 => ?_); have gb11 := HB.out.gB hB; have ob2_b11 := oB qb2 hB; have ob3_b11 := oB qb3 hB; have eb11 := eB hB; clear hB; clear qb2 qb3; replace hr8 := Rd.at hr8 hb80; replace hmp := MapV.at hmp hb80; revert HB; revert kb3; revert kb2; refine uA hb80 ?_; clear hb80; intro kb2 qb2 kb3 qb3 HB; have qb11 := kb11.1; have cb11 := clx kb11; have zb11 := kb11.2.2; refine pl ?_; refine sto kb11 ?_; clear kb11 cb11 zb11; intro w81 kb11 hb82; clear qb2 qb3 qb11; replace hr8 := Rd.oldB hr8 hb82 XW43b; replace hmp := MapV.oldB hmp hb82 (by simp; omega); revert HB; revert kb3; revert kb2; refine uO hb82 ?_; clear hb82; intro kb2 qb2 kb3 qb3 HB; have qb11 := kb11.1; clear sl65; refine lx [11] ?_; clear sl2 sl3 sl8 sl9 sl62 sl63 sl64; intro s83 sl2 sl3 sl8 sl9 sl62 sl63 sl64 sl11; refine lr ?_; intros; refine pl ?_; have cb11 := clx kb11
    refine P4 ?_
    refine pa (fun w84 B12 hB kb12 hb85 => ?_); have gb12 := HB.out.gB hB; have ob2_b12 := oB qb2 hB; have ob3_b12 := oB qb3 hB; have ob11_b12 := oB qb11 hB; have eb12 := eB hB; clear hB; clear cb11; clear qb2 qb3 qb11; replace hr8 := Rd.at hr8 hb85; replace hmp := MapV.at hmp hb85; revert HB; revert kb11; revert kb3; revert kb2; refine uA hb85 ?_; clear hb85; intro kb2 qb2 kb3 qb3 kb11 qb11 HB; have qb12 := kb12.1; have cb12 := clx kb12; have zb12 := kb12.2.2; refine pl ?_; refine sto kb12 ?_; clear kb12 cb12 zb12; intro w86 kb12 hb87; clear qb2 qb3 qb11 qb12; replace hr8 := Rd.oldB hr8 hb87 XW43b; replace hmp := MapV.oldB hmp hb87 (by simp; omega); revert HB; revert kb11; revert kb3; revert kb2; refine uO hb87 ?_; clear hb87; intro kb2 qb2 kb3 qb3 kb11 qb11 HB; have qb12 := kb12.1; refine lx [12] ?_; clear sl2 sl3 sl8 sl9 sl11 sl62 sl63 sl64; intro s88 sl2 sl3 sl8 sl9 sl11 sl62 sl63 sl64 sl12
    refine ln ?_; intros
    obtain ⟨oy, Hlk'⟩ : ∃ o, lookE (all.take i) (y.mach, y.num) = o := ⟨_, rfl⟩; rcases oy with _ | z
    ·skip
     have Hlk := hid Hlk'; clear Hlk'; refine region_F ?_; refine pl ?_; have cb12 := clx kb12; refine pl ?_; refine listF_step rfl (fun K' hK => ?_); refine XW43f ?_
     simp only [Hlk.out, Option.map_none, Option.map_some, Option.getD_none, Option.getD_some, Option.isSome_none, Option.isSome_some, if_true]
     refine hK _ _ ?_; clear hK K'
     refine P3 ?_
     refine pa (fun w91 B13 hB kb13 hb92 => ?_); have gb13 := HB.out.gB hB; have ob2_b13 := oB qb2 hB; have ob3_b13 := oB qb3 hB; have ob11_b13 := oB qb11 hB; have ob12_b13 := oB qb12 hB; have eb13 := eB hB; clear hB; clear cb12; clear qb2 qb3 qb11 qb12; replace hr8 := Rd.at hr8 hb92; replace hmp := MapV.at hmp hb92; revert HB; revert kb12; revert kb11; revert kb3; revert kb2; refine uA hb92 ?_; clear hb92; intro kb2 qb2 kb3 qb3 kb11 qb11 kb12 qb12 HB; have qb13 := kb13.1; have cb13 := clx kb13; have zb13 := kb13.2.2; refine pl ?_; refine sto kb13 ?_; clear kb13 cb13 zb13; intro w93 kb13 hb94; clear qb2 qb3 qb11 qb12 qb13; replace hr8 := Rd.oldB hr8 hb94 XW43b; replace hmp := MapV.oldB hmp hb94 (by simp; omega); revert HB; revert kb12; revert kb11; revert kb3; revert kb2; refine uO hb94 ?_; clear hb94; intro kb2 qb2 kb3 qb3 kb11 qb11 kb12 qb12 HB; have qb13 := kb13.1; refine pl ?_; refine lx [13,14] ?_; clear sl2 sl3 sl8 sl9 sl11 sl12 sl62 sl63 sl64; intro s95 sl2 sl3 sl8 sl9 sl11 sl12 sl62 sl63 sl64 sl13 sl14; refine lr ?_; intros
     refine P3 ?_
     refine pn true ?_; refine pn true ?_; refine pn true ?_; refine pl ?_; clear sl13 sl14; refine lx [85] ?_; clear sl2 sl3 sl8 sl9 sl11 sl12 sl62 sl63 sl64; intro s96 sl2 sl3 sl8 sl9 sl11 sl12 sl62 sl63 sl64 sl85
     replace sl85 : s96 85 = .bool true := by rw [sl85]; (try rfl)
     refine cal (must_ok 5 _) ?_; rintro e w' ⟨rfl, rfl⟩; refine ⟨_, rfl, ?_⟩; clear sl85; refine lx [] ?_; clear sl2 sl3 sl8 sl9 sl11 sl12 sl62 sl63 sl64; intro s98 sl2 sl3 sl8 sl9 sl11 sl12 sl62 sl63 sl64; refine lr ?_; intros; refine pl ?_; have cb12 := clx kb12; refine pl ?_; have cb11 := clx kb11; refine pl ?_; refine listF_step rfl (fun K' hK => ?_); refine opF_put (T := 102) (kt := 104) (E := 65) (kv := kvM) (.tmp 87) (.tmp 88) (.tmp 89) rfl KM Tryz.underlying102 hmp (by omega) (fun x y h => by obtain ⟨x1, x2⟩ := x; obtain ⟨y1, y2⟩ := y; simpa [kvM] using h) (y.mach, y.num) (by go_simp) (by go_simp) hky (fun w99 hm2 hb100 => hK _ _ ?_); clear hK K'
     have hm3 : MapV Tryz.prog 104 kvM w99 bm (i + 1) (fun k => (lookE (all.take (i + 1)) k).map entV) := by have e : (fun k => (lookE (all.take (i + 1)) k).map entV) = (fun k => if k = (y.mach, y.num) then some (entV y) else (lookE (all.take i) k).map entV) := (by funext k; rw [Htk.out, lookE_snoc]; split <;> rfl); rw [e]; simpa using hm2
     clear hm2 hmp; clear cb11 cb12; clear qb2 qb3 qb11 qb12 qb13; replace hr8 := Rd.oldB hr8 hb100 XW43b; revert HB; revert kb13; revert kb12; revert kb11; revert kb3; revert kb2; refine uO hb100 ?_; clear hb100; intro kb2 qb2 kb3 qb3 kb11 qb11 kb12 qb12 kb13 qb13 HB; clear sl11 sl12; refine lx [] ?_; clear sl2 sl3 sl8 sl9 sl62 sl63 sl64; intro s101 sl2 sl3 sl8 sl9 sl62 sl63 sl64; refine lr ?_; intros; refine P2 ?_; clear sl64; refine lx [64] ?_; clear sl2 sl3 sl8 sl9 sl62 sl63; intro s102 sl2 sl3 sl8 sl9 sl62 sl63 sl64; refine ln ?_; intros
     rw [← Hay.out] at sl62; refine ⟨_, _, rfl, ?_, i + 1, rfl, (rL sl64), (sl2.trans hc2_2.out.symm), (sl3.trans hc2_3.out.symm), (sl8.trans hc2_8.out.symm), (sl9.trans hc2_9.out.symm), (sl62.trans hc2_62.out.symm), (sl63.trans hc2_63.out.symm), HB.out, by omega, kb2, kb3, hr8, hm3, hid (by rw [Htk.out]; exact noConf_new hnc.out Hlk.out)⟩
     omega
    ·skip
     have Hlk := hid Hlk'; clear Hlk'; refine region_F ?_; refine pl ?_; have cb12 := clx kb12; refine pl ?_; refine listF_step rfl (fun K' hK => ?_); refine XW43f ?_
     simp only [Hlk.out, Option.map_none, Option.map_some, Option.getD_none, Option.getD_some, Option.isSome_none, Option.isSome_some, if_true]
     refine hK _ _ ?_; clear hK K'
     refine P3 ?_
     refine pa (fun w105 B13 hB kb13 hb106 => ?_); have gb13 := HB.out.gB hB; have ob2_b13 := oB qb2 hB; have ob3_b13 := oB qb3 hB; have ob11_b13 := oB qb11 hB; have ob12_b13 := oB qb12 hB; have eb13 := eB hB; clear hB; clear cb12; clear qb2 qb3 qb11 qb12; replace hr8 := Rd.at hr8 hb106; replace hmp := MapV.at hmp hb106; revert HB; revert kb12; revert kb11; revert kb3; revert kb2; refine uA hb106 ?_; clear hb106; intro kb2 qb2 kb3 qb3 kb11 qb11 kb12 qb12 HB; have qb13 := kb13.1; have cb13 := clx kb13; have zb13 := kb13.2.2; refine pl ?_; refine sto kb13 ?_; clear kb13 cb13 zb13; intro w107 kb13 hb108; clear qb2 qb3 qb11 qb12 qb13; replace hr8 := Rd.oldB hr8 hb108 XW43b; replace hmp := MapV.oldB hmp hb108 (by simp; omega); revert HB; revert kb12; revert kb11; revert kb3; revert kb2; refine uO hb108 ?_; clear hb108; intro kb2 qb2 kb3 qb3 kb11 qb11 kb12 qb12 HB; have qb13 := kb13.1; refine pl ?_; refine lx [13,14] ?_; clear sl2 sl3 sl8 sl9 sl11 sl12 sl62 sl63 sl64; intro s109 sl2 sl3 sl8 sl9 sl11 sl12 sl62 sl63 sl64 sl13 sl14; refine ln ?_; intros
     by_cases hxy : y = z
     ·skip
      have Hxy := hid hxy; clear hxy; refine region_F ?_
      refine P3 ?_
      have cb11 := clx kb11; refine py ?_; have cb13 := clx kb13; refine py ?_; refine listF_yes rfl rfl (by decide) ?_ (fun K' hK => ?_); (focus (go_simp; done)); unfold opF; go_simp
      suffices hs : K' (.bool (decide (y.num = z.num ∧ y.mach = z.mach ∧ y.day = z.day ∧ y.unit.toList = z.unit.toList))) w107 by (by_cases q0 : y.num = z.num <;> by_cases q1 : y.mach = z.mach <;> by_cases q2 : y.day = z.day <;> by_cases q3 : y.unit.toList = z.unit.toList <;> simp [q0, q1, q2, q3] at hs ⊢ <;> exact hs)
      refine hK _ _ ?_; clear hK K'; refine pl ?_; clear sl13 sl14; refine lx [85] ?_; clear sl2 sl3 sl8 sl9 sl11 sl12 sl62 sl63 sl64; intro s112 sl2 sl3 sl8 sl9 sl11 sl12 sl62 sl63 sl64 sl85; have h9 := (ent_eqv _ _).1 Hxy.out
      replace sl85 : s112 85 = .bool true := by rw [sl85]; simp [h9.1, h9.2.1, h9.2.2.1, h9.2.2.2]
      clear h9; refine cal (must_ok 5 _) ?_; rintro e w' ⟨rfl, rfl⟩; refine ⟨_, rfl, ?_⟩; clear sl85; refine lx [] ?_; clear sl2 sl3 sl8 sl9 sl11 sl12 sl62 sl63 sl64; intro s114 sl2 sl3 sl8 sl9 sl11 sl12 sl62 sl63 sl64; refine lr ?_; intros; refine pl ?_; have cb12 := clx kb12; refine P2 ?_; refine listF_step rfl (fun K' hK => ?_); refine opF_put (T := 102) (kt := 104) (E := 65) (kv := kvM) (.tmp 87) (.tmp 88) (.tmp 89) rfl KM Tryz.underlying102 hmp (by omega) (fun x y h => by obtain ⟨x1, x2⟩ := x; obtain ⟨y1, y2⟩ := y; simpa [kvM] using h) (y.mach, y.num) (by go_simp) (by go_simp) hky (fun w115 hm2 hb116 => hK _ _ ?_); clear hK K'
      have hm3 : MapV Tryz.prog 104 kvM w115 bm (i + 1) (fun k => (lookE (all.take (i + 1)) k).map entV) := by have e : (fun k => (lookE (all.take (i + 1)) k).map entV) = (fun k => if k = (y.mach, y.num) then some (entV y) else (lookE (all.take i) k).map entV) := (by funext k; rw [Htk.out, lookE_snoc]; split <;> rfl); rw [e]; simpa using hm2
      clear hm2 hmp; clear cb11 cb12 cb13; clear qb2 qb3 qb11 qb12 qb13; replace hr8 := Rd.oldB hr8 hb116 XW43b; revert HB; revert kb13; revert kb12; revert kb11; revert kb3; revert kb2; refine uO hb116 ?_; clear hb116; intro kb2 qb2 kb3 qb3 kb11 qb11 kb12 qb12 kb13 qb13 HB; clear sl11 sl12; refine lx [] ?_; clear sl2 sl3 sl8 sl9 sl62 sl63 sl64; intro s117 sl2 sl3 sl8 sl9 sl62 sl63 sl64; refine lr ?_; intros; refine P2 ?_; clear sl64; refine lx [64] ?_; clear sl2 sl3 sl8 sl9 sl62 sl63; intro s118 sl2 sl3 sl8 sl9 sl62 sl63 sl64; refine ln ?_; intros
      rw [← Hay.out] at sl62; refine ⟨_, _, rfl, ?_, i + 1, rfl, (rL sl64), (sl2.trans hc2_2.out.symm), (sl3.trans hc2_3.out.symm), (sl8.trans hc2_8.out.symm), (sl9.trans hc2_9.out.symm), (sl62.trans hc2_62.out.symm), (sl63.trans hc2_63.out.symm), HB.out, by omega, kb2, kb3, hr8, hm3, hid (by rw [Htk.out]; exact noConf_was hnc.out Hlk.out Hxy.out)⟩
      omega
     ·skip
      have Hxy := hid hxy; clear hxy; refine region_yield (k := 7) (by kernel_rfl) ?_
      simp only [List.take_succ_cons, List.take_zero, List.drop_succ_cons, List.drop_zero]
      refine P3 ?_
      have cb11 := clx kb11; refine py ?_; have cb13 := clx kb13; refine py ?_; refine listF_yes rfl rfl (by decide) ?_ (fun K' hK => ?_); (focus (go_simp; done)); unfold opF; go_simp
      suffices hs : K' (.bool (decide (y.num = z.num ∧ y.mach = z.mach ∧ y.day = z.day ∧ y.unit.toList = z.unit.toList))) w107 by (by_cases q0 : y.num = z.num <;> by_cases q1 : y.mach = z.mach <;> by_cases q2 : y.day = z.day <;> by_cases q3 : y.unit.toList = z.unit.toList <;> simp [q0, q1, q2, q3] at hs ⊢ <;> exact hs)
      refine hK _ _ ?_; clear hK K'; refine pl ?_; clear sl13 sl14; refine lx [82,83,84,85] ?_; clear sl2 sl3 sl8 sl9 sl11 sl12 sl62 sl63 sl64; intro s121 sl2 sl3 sl8 sl9 sl11 sl12 sl62 sl63 sl64 sl82 sl83 sl84 sl85; refine lsn ?_
      replace sl85 : s121 85 = .bool false := by rw [sl85]; congr 1; rw [Bool.eq_false_iff]; intro h; simp at h; exact Hxy.out ((ent_eqv _ _).2 ⟨h.1, h.2.1, h.2.2.1, h.2.2.2⟩)
      have e9 := Hr.out.symm.trans (merge_bad (merge_conf (by simpa using h8) hokA (by rw [← Hall.out]; exact conf_at hk Hy.out Hlk.out Hxy.out)) (by decide))
      obtain ⟨rfl, rfl⟩ : R = [] ∧ er = 5 := by simpa using e9
      refine callpan_in (ch := [{ v := .iface 30 (.int .i64 5), recovered := false }]) (f := 54) (args := #[.bool false, .int .i64 5]) (by go_simp) ?_; refine (must_bad 5 _).mono ?_; rintro e9' w9 ⟨rfl, rfl⟩; refine ⟨rfl, ?_⟩; refine (rep_leave_pan (er := 5) (n := 93) (Ds := []) (by decide) sl2 sl3 (by simp) List.nodup_nil kb2 kb3 (by omega) (by simp) (by simp) (fun w' ho => ?_) : bodyPostM _ _ _ _ _ (.panic _) (mkA _ _ _) _); exact XW43d
   ·skip
    have hk : i = all.length := by have h := h65; simp at h; omega
    have HnC := hid (show NoConf all by have h := hnc.out; rwa [hk, List.take_length] at h); have e9 := Hr.out.symm.trans (merge_ok (by simpa using h8) hokA (by rw [← Hall.out]; exact HnC.out))
    obtain ⟨hR9, rfl⟩ : R = mergeS (xs.map SlE.l).flatten ∧ er = 0 := by simpa using e9
    have HRR := hid (show setL soonE all = R by rw [hR9, ← Hall.out]; rfl); clear hR9 e9
    refine zx ?_; intros
    clear hc2_2 hc2_3 hc2_8 hc2_9 hc2_62 hc2_63; refine region_F ?_; refine pl ?_; refine cal (sorted_ent a8 c8 all R _ hr8 hcl (fun z hz => entB_of (HzE.out z hz)) (fun m hp hs => by rw [comp_set (totE HnC.out) (fun _ h => h) hs (fun x => hp.mem_iff.symm)]; exact HRR.out)) ?_; rintro e w124 ⟨a92, c92, rfl, hr92, hf92, hb125⟩; have H92 := hid (show ∀ b, a92 = some b → B2 < b.block ∧ B3 < b.block ∧ w.heap.size ≤ b.block from fun b hb => by have := hf92 b hb; have := HB.out.size; omega); clear hf92; refine ⟨_, rfl, ?_⟩; clear qb2 qb3; replace hr8 := Rd.at hr8 hb125; replace hmp := MapV.at hmp hb125; revert HB; revert kb3; revert kb2; refine uA hb125 ?_; clear hb125; intro kb2 qb2 kb3 qb3 HB; clear hr8 hmp; have cb2_0 := kb2.cell 0 rfl; have zb2 := kb2.2.2; refine pl ?_; refine sto kb2 ?_; clear kb2 cb2_0 zb2; intro w126 kb2 hb127; clear qb2 qb3; replace hr92 := Rd.oldB hr92 hb127 (fun b hb => by have := H92.out b hb; simp; omega); revert HB; revert kb3; refine uO hb127 ?_; clear hb127; intro kb3 qb3 HB; have qb2 := kb2.1; have cb3_0 := kb3.cell 0 rfl; have zb3 := kb3.2.2; refine pl ?_; refine sto kb3 ?_; clear kb3 cb3_0 zb3; intro w128 kb3 hb129; clear qb2 qb3; replace hr92 := Rd.oldB hr92 hb129 (fun b hb => by have := H92.out b hb; simp; omega); revert HB; revert kb2; refine uO hb129 ?_; clear hb129; intro kb2 qb2 HB; have qb3 := kb3.1; clear sl8 sl9 sl62 sl63 sl64 sl65; refine lx [] ?_; clear sl2 sl3; intro s130 sl2 sl3; refine ln ?_; intros
    refine rep_leave_ret (n := 93) (Ds := []) (B8 := B2) (B9 := B3) (v := .slice a92 R.length c92) (e := 0) (by decide) sl2 sl3 (by simp) List.nodup_nil kb2 kb3 (by simp) (by simp) rfl ?_; exact ⟨a92, c92, rfl, hr92, fun b hb => (H92.out b hb).2.2, HB.out.toBelow⟩
 ·skip
  refine region_yield (k := 3) (by kernel_rfl) ?_
  simp only [List.take_succ_cons, List.take_zero, List.drop_succ_cons, List.drop_zero]
  refine P3 ?_
  clear sl15; refine lx [18] ?_; clear sl0 sl2 sl3; intro s131 sl0 sl2 sl3 sl18; refine lsn ?_
  replace sl18 : s131 18 = .bool false := by rw [sl18]; simp; omega
  have e9 := Hr.out.symm.trans (merge_bad (merge_many (by simpa using Nat.lt_of_not_le h8)) (by decide))
  obtain ⟨rfl, rfl⟩ : R = [] ∧ er = 3 := by simpa using e9
  refine XW43e ?_; refine (must_bad 3 _).mono ?_; rintro e9' w9 ⟨rfl, rfl⟩; refine ⟨rfl, ?_⟩; refine (rep_leave_pan (er := 3) (n := 93) (Ds := []) (by decide) sl2 sl3 (by simp) List.nodup_nil kb2 kb3 (by omega) (by simp) (by simp) (fun w' ho => ?_) : bodyPostM _ _ _ _ _ (.panic _) (mkA _ _ _) _); exact XW43d

end Go.Proofs.YtleknidlgmmgbaaGreat
