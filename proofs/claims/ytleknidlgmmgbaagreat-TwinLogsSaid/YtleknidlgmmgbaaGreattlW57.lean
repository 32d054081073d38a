/- The program: Log. -/
import Derived.Test.YtleknidlgmmgbaaGreattlW54
import Derived.Test.YtleknidlgmmgbaaGreattlW34
set_option linter.all false
namespace Go.Proofs.YtleknidlgmmgbaaGreat

open Go.RowKit

theorem load_t74 {w : World} {b o : Nat} {x0 : Value} (h0 : w.cell? ⟨b, o, none⟩ = some x0) :
    (loadVar 74 ⟨b, o, none⟩).run Tryz.prog w = .ok (x0) w := by
  simp [go_sem, h0]


/-- what the rounds of Log have found -/
structure LogJ (s : St4) (fs : List Flt) (every most : Nat) (w0 : World) (M B8 B10 X Y Z D : Nat) (v : Value) (i : Nat) (W : World) : Prop where
  b : Below w0.heap.size w0 W
  c8 : Cells W B8 [v]
  c10 : Cells W B10 [.pointer (some ⟨M, 0, none⟩)]
  cX : Cells W X [.pointer (some ⟨M, 0, none⟩)]
  cY : Cells W Y [.int .i64 (most : Int)]
  cZ : Cells W Z [.int .i64 (every : Int)]
  o : Own Mrk.cs 3 85 (D + 2) W v (logU s fs every most i)
theorem LogJ.old {s : St4} {fs : List Flt} {every most : Nat} {w0 : World} {M B8 B10 X Y Z D i : Nat} {v : Value} {W W' : World} (h : LogJ s fs every most w0 M B8 B10 X Y Z D v i W) {k : Nat} (ho : OldB [k] W W') (hk : k < D + 2)
    (h8 : B8 ≠ k) (h10 : B10 ≠ k) (hX : X ≠ k) (hY : Y ≠ k) (hZ : Z ≠ k) (h0 : w0.heap.size ≤ k) : LogJ s fs every most w0 M B8 B10 X Y Z D v i W' :=
  ⟨h.b.trans (ho.lowN h.b.size (by simp; omega)), h.c8.oldB ho (by simpa using h8), h.c10.oldB ho (by simpa using h10), h.cX.oldB ho (by simpa using hX), h.cY.oldB ho (by simpa using hY), h.cZ.oldB ho (by simpa using hZ), Own.oldB h.o ho (fun g hg => by have := (World.ownsRow.lt h.o g hg).1; simp; omega)⟩
theorem LogJ.at {s : St4} {fs : List Flt} {every most : Nat} {w0 : World} {M B8 B10 X Y Z D i : Nat} {v : Value} {W W' : World} (h : LogJ s fs every most w0 M B8 B10 X Y Z D v i W) (hb : Below W.heap.size W W') : LogJ s fs every most w0 M B8 B10 X Y Z D v i W' :=
  ⟨h.b.trans (hb.mono h.b.size), h.c8.at hb, h.c10.at hb, h.cX.at hb, h.cY.at hb, h.cZ.at hb, Own.at h.o hb⟩

theorem XW57b {A : Prop} (e : A := by
 rintro sJ wJ hbJ hunJ hdJ
 have sv10 := (hunJ 10 (by decide) (un_of (by kernel_rfl))).trans Z10; have kJ := Y10.at hbJ; have qJ := kJ.1; have cJ_0 := (kJ).cell 0 rfl; rw [if_pos (by rfl)]; exact oV) : A := e
theorem XW57c {A : Prop} (e : A := by exact (fun g hg => by have n0 := (World.ownsRow.lt hO g hg).1; first | (simp; done) | (simp; omega))) : A := e
theorem XW57d {A B1 : Prop} (hX1 : B1) (e : B1 → A := by intro hX1; exact retM_F _ (res_ct Tryz.results39 ((getD_F (by decide)).trans Z8) (load_t74 cb8_0) ((getD_F (by decide)).trans Z9)) hX1) : A := e hX1
set_option maxRecDepth 100000 in
set_option maxHeartbeats 32000000 in
theorem tlog_v (s : St4) (A : SA) (af : Option Addr) (cf : Nat) (fs : List Flt) (every most er : Int) (l : List Mrk) (w : World) (hR : RdSt w s A) (hL : LenI s) (hlf : fs.length ≤ 9223372036854775807) (hF : RdFl w af fs) (hhr : logR s fs every most = (l, er)) :
    Calls Tryz.prog 39 #[sV s A, .slice af fs.length cf, .int .i64 every, .int .i64 most] w (fun e w' => ∃ a c, e = .returned (.tuple #[.slice a l.length c, .int .i64 er]) ∧ RdMk w' a l ∧ (∀ b, a = some b → w.heap.size ≤ b.block) ∧ Below w.heap.size w w') := by
 have hmf := hmf; have HR := hid hR; have HL := hid hL; have HF := hid hF; have Hhr := hid hhr; clear hR hL hF hhr; obtain ⟨ea, hA⟩ : ∃ x, askErr12 s fs most = x := ⟨_, rfl⟩; have HA := hid hA; clear hA; obtain ⟨i0, hi0, hz0, hy0, hx0⟩ := info_parts info_mrk; refine enterM_F Tryz.func39 rfl Tryz.ntmps39 (by simp) ?_; intro s0 hs; have Z0 : s0 0 = .agg #[.slice A.sa s.store.length A.sc, .slice A.ta s.tape.length A.tc, .int .i64 s.taken, .slice A.pa s.printed.length A.pc, .int .i64 s.time, .int .i64 s.pc, .int .i64 s.done, .int .i64 s.why] := hs 0 (by simp); have Z1 : s0 1 = .slice af fs.length cf := hs 1 (by simp); have Z2 : s0 2 = .int .i64 every := hs 2 (by simp); have Z3 : s0 3 = .int .i64 most := hs 3 (by simp); clear hs; have HB := hid (OldB.refl [] w)
 refine nr ?_; intros; refine pa (fun w1 B4 hB Y4 hb2 => ?_); have gb4 := HB.out.gB hB; have eb4 := eB hB; clear hB; replace HB := bE HB hb2; clear hb2; have Q4 := Y4.1; refine pa (fun w3 B8 hB Y8 hb4 => ?_); have gb8 := HB.out.gB hB; have ob4_b8 := oB Q4 hB; have eb8 := eB hB; clear hB; clear Q4; revert Y4 HB; refine uA hb4 ?_; clear hb4; intro Y4 Q4 HB; have Q8 := Y8.1; refine pl ?_; clear Z0; refine lx [4,8] ?_; clear Z1 Z2 Z3; intro s5 Z1 Z2 Z3 Z4 Z8; refine lr ?_; intros; have cb4 := clx Y4
 refine P3 ?_
 refine cal (tcheck_v s A af cf fs most ea _ (HR.out.old HB.out) HL.out (Rd.oldB HF.out HB.out (by simp)) hlf HA.out) ?_; rintro e w6 ⟨rfl, hb7⟩; refine ⟨_, rfl, ?_⟩; clear cb4; clear Q4 Q8; revert Y8 Y4 HB; refine uA hb7 ?_; clear hb7; intro Y8 Q8 Y4 Q4 HB; refine pl ?_; refine lx [9] ?_; clear Z1 Z2 Z3 Z4 Z8; intro s8 Z1 Z2 Z3 Z4 Z8 Z9; refine ln ?_; intros
 by_cases he : ea = 0
 ·skip
  subst he; obtain ⟨hok, hfl, hfo, hm1, hm2⟩ := ask12_zero.1 HA.out; have Hok := hid hok; have Hfo := hid hfo; clear hok hfo; refine region_F ?_; refine P2 ?_; refine lx [16] ?_; clear Z1 Z2 Z3 Z4 Z8 Z9; intro s9 Z1 Z2 Z3 Z4 Z8 Z9 Z16; refine ln ?_; intros
  refine cond_f ?_
  refine nr ?_; intros; refine pl ?_; refine cal (tout_any every 1 1000 _) ?_; rintro e w' ⟨rfl, rfl⟩; refine ⟨_, rfl, ?_⟩; clear Z9 Z16; refine lx [19] ?_; clear Z1 Z2 Z3 Z4 Z8; intro s11 Z1 Z2 Z3 Z4 Z8 Z19; refine ln ?_; intros
  refine cond_E Z19 (by decide) ?_ ?_ <;> (clear Z19; intro h19 Z19)
  ·skip
   have e9 := Hhr.out.symm.trans (logR_bad2 HA.out (by simpa using h19))
   obtain ⟨rfl, rfl⟩ : l = [] ∧ er = 7 := by simpa using e9
   refine nr ?_; intros; have cb8_0 := Y8.cell 0 rfl; have zb8 := Y8.2.2; refine pl ?_; refine sto Y8 ?_; clear Y8 cb8_0 zb8; intro w12 Y8 hb13; clear Q4 Q8; revert HB; revert Y4; refine uO hb13 ?_; clear hb13; intro Y4 Q4 HB; have Q8 := Y8.1; refine pl ?_; clear Z1 Z2 Z3 Z4 Z19; refine lx [9] ?_; clear Z8; intro s14 Z8 Z9; refine ln ?_; intros
   have cb8_0 := Y8.cell 0 rfl; refine XW57d ?_; exact ⟨none, 0, rfl, .inl rfl, (fun b hb => by cases hb), HB.out.toBelow⟩
  ·skip
   have hev := (inI_iff every 1 1000).1 (by simpa using h19); obtain ⟨hev1, hev2⟩ := hev; obtain ⟨mn, rfl⟩ : ∃ mn : Nat, most = (mn : Int) := ⟨most.toNat, by omega⟩; obtain ⟨ev, rfl⟩ : ∃ ev : Nat, every = (ev : Int) := ⟨every.toNat, by omega⟩; have e9 := Hhr.out.symm.trans (logR_ok HA.out (by simpa using h19))
   obtain ⟨hl9, rfl⟩ : l = logL s fs ev mn ∧ er = 0 := by simpa using e9
   have Hl9 := hid hl9; clear e9 hl9 h19
   replace hev1 : 1 ≤ ev := by omega
   replace hev2 : ev ≤ 1000 := by omega
   refine nr ?_; intros; have cb4 := clx Y4; refine P2 ?_; refine cal (tstart_any s A af cf fs _ (HR.out.old HB.out) (Rd.oldB HF.out HB.out (by simp)) hfl Hfo.out) ?_; rintro e w15 ⟨M, rfl, gM0, hTW, hb16⟩
   have gM : w.heap.size ≤ M := by have := HB.out.size; omega
   have ob8M : B8 < M := by have := Q8; omega
   have hT := hTW [B8] (fun k hk => by simp at hk; subst hk; exact ⟨Q8, HR.out.freeB gb8⟩); clear hTW; refine ⟨_, rfl, ?_⟩; clear cb4; clear Q4 Q8; revert HB; revert Y8; revert Y4; refine uA hb16 ?_; clear hb16; intro Y4 Q4 Y8 Q8 HB; have HN := hid (OldB.refl [] w15); refine pa (fun w17 B10 hB Y10 hb18 => ?_); have gb10 := HB.out.gB hB; have lHN_b10 := HN.out.gB hB; have ob4_b10 := oB Q4 hB; have ob8_b10 := oB Q8 hB; have eb10 := eB hB; clear hB; clear Q4 Q8; revert Y4 Y8 HB HN; refine uA hb18 ?_; clear hb18; intro Y4 Q4 Y8 Q8 HB HN; have Q10 := Y10.1
   have oMb10 : M < B10 := by have := hT.lt; omega
   have cb10_0 := Y10.cell 0 rfl; have zb10 := Y10.2.2; refine pl ?_; refine sto Y10 ?_; clear Y10 cb10_0 zb10; intro w19 Y10 hb20; clear Q4 Q8 Q10; revert Y4 Y8 HB HN; refine uO hb20 ?_; clear hb20; intro Y4 Q4 Y8 Q8 HB HN; have Q10 := Y10.1; replace hT := TW.at hT HN.out.toBelow; clear HN; clear Z1 Z4 Z19; refine lx [10] ?_; clear Z2 Z3 Z8; intro s21 Z2 Z3 Z8 Z10; refine lr ?_; intros; have cb10_0 := Y10.cell 0 rfl
   refine P3 ?_
   refine listF_step rfl (fun K' hK => ?_); unfold opF; go_simp; refine (stretches_any M ev mn _).mono ?_; rintro e w22 ⟨X, Y, Z, rfl, kX', kY', kZ', ⟨gX', gY', gZ'⟩, hb23⟩
   have oMX : M < X := by have := hT.lt; omega
   have oMY : M < Y := by have := hT.lt; omega
   have oMZ : M < Z := by have := hT.lt; omega
   have ob4_X : B4 < X := by have := gX'; omega
   have ob8_X : B8 < X := by have := gX'; omega
   have ob10_X : B10 < X := by have := gX'; omega
   have ob4_Y : B4 < Y := by have := gY'; omega
   have ob8_Y : B8 < Y := by have := gY'; omega
   have ob10_Y : B10 < Y := by have := gY'; omega
   have ob4_Z : B4 < Z := by have := gZ'; omega
   have ob8_Z : B8 < Z := by have := gZ'; omega
   have ob10_Z : B10 < Z := by have := gZ'; omega
   refine ⟨_, rfl, hK _ _ ?_⟩; clear hK K'; clear cb10_0; clear Q4 Q8 Q10; replace hT := TW.at hT hb23; revert Y10 Y4 Y8 HB; refine uA hb23 ?_; clear hb23; intro Y10 Q10 Y4 Q4 Y8 Q8 HB; have kX := kX'; clear kX'; have qX := kX.1; have kY := kY'; clear kY'; have qY := kY.1; have kZ := kZ'; clear kZ'; have qZ := kZ.1; clear Z2 Z3; refine lx [26] ?_; clear Z8 Z10; intro s24 Z8 Z10 Z26; refine ln ?_; intros
   obtain ⟨D, hDD⟩ : ∃ d, w22.heap.size = d := ⟨_, rfl⟩
   have db8 : B8 < D := by have := Y8.1; omega
   have db10 : B10 < D := by have := Y10.1; omega
   have dX : X < D := by have := kX.1; omega
   have dY : Y < D := by have := kY.1; omega
   have dZ : Z < D := by have := kZ.1; omega
   have dM : M < D := by have := hT.lt; omega
   have dwD : w.heap.size ≤ D := by have := HB.out.size; omega
   have hJ0 : ∃ v, LogJ s fs ev mn w M B8 B10 X Y Z D v 0 w22 ∧ TW (v.ownBlock.toList ++ [B8, D + 1]) w22 M (run12 s fs (nn ev mn 0)) fs ((nn ev mn 0 : Nat) : Int) := ⟨.slice none 0 0, ⟨HB.out.toBelow, Y8, Y10, kX, kY, kZ, Own.nil _ _ _ _ _⟩, by rw [nn_zero]; exact (hT.avoid (j := D + 1) (by omega)).less (by simp [Value.ownBlock])⟩; have HJ0 := hid hJ0; clear hJ0; refine wp_range_r (α := Nat × SA) (enc := fun x : Nat × SA => #[.int .i64 (x.1 : Int), .agg #[.slice x.2.sa (run12 s fs (nn ev mn x.1)).store.length x.2.sc, .slice x.2.ta (run12 s fs (nn ev mn x.1)).tape.length x.2.tc, .int .i64 (run12 s fs (nn ev mn x.1)).taken, .slice x.2.pa (run12 s fs (nn ev mn x.1)).printed.length x.2.pc, .int .i64 (run12 s fs (nn ev mn x.1)).time, .int .i64 (run12 s fs (nn ev mn x.1)).pc, .int .i64 (run12 s fs (nn ev mn x.1)).done, .int .i64 (run12 s fs (nn ev mn x.1)).why]]) (gf := 80) (lb := #[.pointer (some ⟨X, 0, none⟩), .pointer (some ⟨Y, 0, none⟩), .pointer (some ⟨Z, 0, none⟩)]) ?hg ?eg (fun _ => rfl) (fun pre W => ∃ v, LogJ s fs ev mn w M B8 B10 X Y Z D v pre.length W ∧ TW (v.ownBlock.toList ++ [B8, D + 1]) W M (run12 s fs (nn ev mn pre.length)) fs ((nn ev mn pre.length : Nat) : Int)) (fun pre x W => x.1 = pre.length ∧ x.1 < cntN ev mn ∧ ∃ v, LogJ s fs ev mn w M B8 B10 X Y Z D v x.1 W ∧ TW (v.ownBlock.toList ++ [B8, D + 1]) W M (run12 s fs (nn ev mn (x.1 + 1))) fs ((nn ev mn (x.1 + 1) : Nat) : Int) ∧ RdSt W (run12 s fs (nn ev mn x.1)) x.2 ∧ ∀ k ∈ M :: (v.ownBlock.toList ++ [B8, D + 1]), x.2.free (run12 s fs (nn ev mn x.1)) k) (fun xs => xs.length = cntN ev mn) (fun W => False) ?hJ ?hD ?h0 ?hiter ?hround ?hdone ?hleave
   case hg => rw [mkA_eval]; go_simp
   case eg => intro args w; rfl
   case hJ =>
    rintro pre Wx r r' ⟨v, h1, h2⟩ hLx; rw [hDD] at hLx ⊢; exact ⟨v, h1.old oldB_put (by omega) (by omega) (by omega) (by omega) (by omega) (by omega) (by omega), h2.old oldB_put (by simp)⟩
   case hD =>
    rintro Wx r r' h hLx; clear hLx; exact h
   case h0 =>
    intro r; have hb : Below w22.heap.size w22 ((w22.alloc (.deferred (some []))).alloc (.loop r)) := ((Below.refl _ _).alloc (Nat.le_refl _) _).alloc (by simp) _; obtain ⟨v, h1, h2⟩ := HJ0.out; exact ⟨v, h1.at hb, h2.at hb⟩
   case hiter =>
    rintro r r' Wx ⟨v0, h1, h2⟩ hLx hy; rw [hDD] at hLx hy ⊢; refine (stretches1_any (v0.ownBlock.toList ++ [B8, D + 1]) s M X Y Z (D + 1) fs ev mn (fun i av W => ∃ v, av = v.ownBlock.toList ++ [B8, D + 1] ∧ LogJ s fs ev mn w M B8 B10 X Y Z D v i W ∧ LoopAt W D r) (fun W => False) Wx Hok.out Hfo.out hfl ⟨hev1, hev2⟩ (by omega) (by have h9 := h2; rw [show ([] : List (Nat × SA)).length = 0 from rfl, nn_zero] at h9; exact h9) (by omega) (by omega) (by omega) ⟨v0, rfl, h1, hLx⟩ (fun i av W W' h ho => by obtain ⟨v, e, h8, h9⟩ := h; exact ⟨v, e, h8.old ho (by omega) (by omega) (by omega) (by omega) (by omega) (by omega) (by omega), h9.oldB ho (by simp; omega)⟩) (fun i av W h => by obtain ⟨v, e, h8, h9⟩ := h; exact ⟨h8.cX, h8.cY, h8.cZ, fun k hk => by have a2 := h8.c8.1; have a3 := (Array.getElem?_eq_some_iff.1 h9.1).1; rw [e] at hk; rcases List.mem_append.1 hk with hk | hk; exact (World.ownsRow.lt h8.o k (by simpa using hk)).2; simp at hk; omega⟩) (fun i av A W hi hT hR hAf h => ?_)).mono ?_
    · obtain ⟨v, rfl, h8, h9⟩ := h
      refine yield_mono (hy (List.replicate i (0, SA.none)) (i, A) W ⟨by simp, hi, v, h8, hT, hR, hAf⟩ h9) ?_; rintro e W' (⟨rfl, ⟨v', h3, h4⟩, h5⟩ | ⟨rfl, h3, h4⟩)
      · rw [show (List.replicate i ((0, SA.none) : Nat × SA) ++ [(i, A)]).length = i + 1 by simp] at h3 h4; exact .inl ⟨rfl, _, h4, v', rfl, h3, h5⟩
      · exact h3.elim
    · rintro e W' ⟨hv, ⟨av', h3, v', rfl, h4, h5⟩ | h3⟩
      · refine ⟨hv, .inl ⟨List.replicate (cntN ev mn) (0, SA.none), ⟨v', ?_, ?_⟩, by simp, h5⟩⟩ <;> rw [List.length_replicate]; exact h4; rw [cnt_nn hev1]; exact h3
      · exact h3.elim
   case hround =>
    clear Y4 Y8 Y10 kX kY kZ Q4 Q8 Q10 qX qY qZ hT HB Z26; rintro pre ⟨i, A'⟩ Wx r ⟨hpl, hic, v8, hj, hT, hRb, hAf⟩ hL; rw [hDD] at hL ⊢
    simp only [zip2, foldl2, mkA_tmps, tm_put, mkA_mk]
    refine wpIn_abs (fun s26 z' => ?_); have t8 := slg z' Z8; clear Z8; have Z8 := t8; clear t8; have t10 := slg z' Z10; clear Z10; have Z10 := t10; clear t10; have Z27 := gu 27 z'; have Z28 := gu 28 z'; clear z'; have Hpl := hid hpl; clear hpl
    (try dsimp only at Hpl hic hj hT hRb hAf)
    clear hRb hAf; obtain ⟨hbW, k8', k10', kX', kY', kZ', hO⟩ := hj; obtain ⟨bn, hbn⟩ : ∃ n, nn ev mn (i + 1) = n := ⟨_, rfl⟩
    have hbm : bn ≤ mn := by rw [← hbn]; exact nn_le _ _ _
    rw [hbn] at hT; obtain ⟨c, hc⟩ : ∃ c, run12 s fs bn = c := ⟨_, rfl⟩; rw [hc] at hT; have hokc := hid (show OkI c by rw [← hc]; exact after_ok Hfo.out Hok.out); have Hbn := hid hbn; have Hc := hid hc; clear hbn hc; have HB := hid (OldB.nil (Bs := []) hbW); clear hbW; have hTc := hT; obtain ⟨A1, bm1, km1, gm1, kM', hR1, hf1, -, -, -, -, -, hav1⟩ := hTc; have Y8 := k8'; clear k8'; have Q8 := Y8.1; have Y10 := k10'; clear k10'; have Q10 := Y10.1; have kX := kX'; clear kX'; have qX := kX.1; have kY := kY'; clear kY'; have qY := kY.1; have kZ := kZ'; clear kZ'; have qZ := kZ.1; have kM := kM'; clear kM'; have qM := kM.1
    refine nxi ?_
    refine ⟨hL, fun r' => ?_⟩; obtain ⟨w27, hwP⟩ : ∃ x, x = Wx.putObj (D + 1) (.loop r') := ⟨_, rfl⟩
    have hb28 : OldB [D + 1] Wx w27 := by rw [hwP]; exact oldB_put
    have hLp : LoopAt w27 D r' := by rw [hwP]; exact hL.put
    rw [← hwP]; clear hwP; have hDs := (Array.getElem?_eq_some_iff.1 hL.1).1; clear hL; clear Q8 Q10 qX qY qZ qM; replace hT := TW.old hT hb28 (by simp); replace hR1 := (by first | exact RdSt.old hR1 hb28 | exact RdSt.oldK hR1 (hav1 _ (by simp)) hb28); replace hO := Own.oldB hO hb28 XW57c; revert HB Y8 Y10 kX kY kZ kM; refine uO hb28 ?_; clear hb28; intro HB Y8 Q8 Y10 Q10 kX qX kY qY kZ qZ kM qM; have hL := hLp; clear hLp
    refine nxi ?_
    refine regVI (ρ := some (D + 1)) 17 [fun v _ _ _ => v = v8, fun v _ _ _ => v = .pointer (some ⟨M, 0, none⟩), fun v _ _ _ => v = .pointer (some ⟨M, 0, none⟩), fun v _ _ _ => v = .pointer (some ⟨M, 9, none⟩), fun v _ _ _ => v = .int .i64 (bn : Int), fun v _ _ _ => v = .pointer (some ⟨M, 0, none⟩), fun v _ _ _ => v = .pointer (some ⟨M, 0, none⟩), fun v _ _ _ => v = .pointer (some ⟨M, 0, none⟩), fun v _ _ _ => v = .pointer (some ⟨M, 5, none⟩), fun v _ _ _ => v = .int .i64 c.pc, fun v _ _ _ => v = .pointer (some ⟨M, 0, none⟩), fun v _ _ _ => v = .pointer (some ⟨M, 0, none⟩), fun v _ _ _ => v = .pointer (some ⟨M, 0, none⟩), fun v _ _ _ => v = .agg #[Value.slice A1.sa c.store.length A1.sc, Value.slice A1.ta c.tape.length A1.tc, .int .i64 c.taken, Value.slice A1.pa c.printed.length A1.pc, .int .i64 c.time, .int .i64 c.pc, .int .i64 c.done, .int .i64 c.why], fun v _ _ _ => v = .int .i64 (sealI' c), fun v _ _ _ => v = .agg #[.int .i64 (bn : Int), .int .i64 c.pc, .int .i64 (sealI' c)], fun v a b W => ∃ B, v = .slice (some ⟨B, 0, none⟩) 1 1 ∧ a ≤ B ∧ B < b ∧ Cells W B [.int .i64 (bn : Int), .int .i64 c.pc, .int .i64 (sealI' c)]] (by kernel_rfl) (by kernel_rfl) (by kernel_rfl) (by kernel_rfl) (by repeat (first | refine out_then ?_ | refine out_inB ?_); rintro ⟨_, _, h, _⟩; rcases h with ⟨h, _⟩ | ⟨h, _⟩ <;> cases h) rfl ⟨fun _ _ _ _ _ h _ => h, fun _ _ _ _ _ h _ => h, fun _ _ _ _ _ h _ => h, fun _ _ _ _ _ h _ => h, fun _ _ _ _ _ h _ => h, fun _ _ _ _ _ h _ => h, fun _ _ _ _ _ h _ => h, fun _ _ _ _ _ h _ => h, fun _ _ _ _ _ h _ => h, fun _ _ _ _ _ h _ => h, fun _ _ _ _ _ h _ => h, fun _ _ _ _ _ h _ => h, fun _ _ _ _ _ h _ => h, fun _ _ _ _ _ h _ => h, fun _ _ _ _ _ h _ => h, fun _ _ _ _ _ h _ => h, fun _ _ _ _ _ ⟨B, h1, h2, h3, h4⟩ hb => ⟨B, h1, h2, h3, h4.at hb⟩, trivial⟩ ⟨?_, ?_, ?_, ?_, ?_, ?_, ?_, ?_, ?_, ?_, ?_, ?_, ?_, ?_, ?_, ?_, ?_, trivial⟩ ?_
    · rintro sJ wJ hbJ hunJ hdJ
      have sv8 := (hunJ 8 (by decide) (un_of (by kernel_rfl))).trans Z8; have kJ := Y8.at hbJ; have qJ := kJ.1; have cJ_0 := (kJ).cell 0 rfl; rw [if_pos (by rfl)]; exact oV
    · exact XW57b
    · rintro sJ wJ hbJ hunJ hdJ
      have sv30 : sJ 30 = .pointer (some ⟨M, 0, none⟩) := (hdJ 1 (by kernel_rfl) 30 rfl).elim fun _ h => h.elim fun _ h => h.2.2
      rw [if_pos (by rfl)]; exact oV
    · rintro sJ wJ hbJ hunJ hdJ
      have sv31 : sJ 31 = .pointer (some ⟨M, 0, none⟩) := (hdJ 2 (by kernel_rfl) 31 rfl).elim fun _ h => h.elim fun _ h => h.2.2
      rw [if_pos (by rfl)]; exact oV
    · rintro sJ wJ hbJ hunJ hdJ
      have sv32 : sJ 32 = .pointer (some ⟨M, 9, none⟩) := (hdJ 3 (by kernel_rfl) 32 rfl).elim fun _ h => h.elim fun _ h => h.2.2
      have kJ := kM.at hbJ; have qJ := kJ.1; have cJ_9 := (kJ).cell 9 rfl; rw [if_pos (by rfl)]; exact oV
    · exact XW57b
    · rintro sJ wJ hbJ hunJ hdJ
      have sv34 : sJ 34 = .pointer (some ⟨M, 0, none⟩) := (hdJ 5 (by kernel_rfl) 34 rfl).elim fun _ h => h.elim fun _ h => h.2.2
      rw [if_pos (by rfl)]; exact oV
    · rintro sJ wJ hbJ hunJ hdJ
      have sv35 : sJ 35 = .pointer (some ⟨M, 0, none⟩) := (hdJ 6 (by kernel_rfl) 35 rfl).elim fun _ h => h.elim fun _ h => h.2.2
      rw [if_pos (by rfl)]; exact oV
    · rintro sJ wJ hbJ hunJ hdJ
      have sv36 : sJ 36 = .pointer (some ⟨M, 0, none⟩) := (hdJ 7 (by kernel_rfl) 36 rfl).elim fun _ h => h.elim fun _ h => h.2.2
      rw [if_pos (by rfl)]; exact oV
    · rintro sJ wJ hbJ hunJ hdJ
      have sv37 : sJ 37 = .pointer (some ⟨M, 5, none⟩) := (hdJ 8 (by kernel_rfl) 37 rfl).elim fun _ h => h.elim fun _ h => h.2.2
      have kJ := kM.at hbJ; have qJ := kJ.1; have cJ_5 := (kJ).cell 5 rfl; rw [if_pos (by rfl)]; exact oV
    · exact XW57b
    · rintro sJ wJ hbJ hunJ hdJ
      have sv39 : sJ 39 = .pointer (some ⟨M, 0, none⟩) := (hdJ 10 (by kernel_rfl) 39 rfl).elim fun _ h => h.elim fun _ h => h.2.2
      rw [if_pos (by rfl)]; exact oV
    · rintro sJ wJ hbJ hunJ hdJ
      have sv40 : sJ 40 = .pointer (some ⟨M, 0, none⟩) := (hdJ 11 (by kernel_rfl) 40 rfl).elim fun _ h => h.elim fun _ h => h.2.2
      rw [if_pos (by rfl)]; exact oV
    · rintro sJ wJ hbJ hunJ hdJ
      have sv41 : sJ 41 = .pointer (some ⟨M, 0, none⟩) := (hdJ 12 (by kernel_rfl) 41 rfl).elim fun _ h => h.elim fun _ h => h.2.2
      have kJ := kM.at hbJ; have qJ := kJ.1; have cJ_0 := (kJ).cell 0 rfl; have cJ_1 := (kJ).cell 1 rfl; have cJ_2 := (kJ).cell 2 rfl; have cJ_3 := (kJ).cell 3 rfl; have cJ_4 := (kJ).cell 4 rfl; have cJ_5 := (kJ).cell 5 rfl; have cJ_6 := (kJ).cell 6 rfl; have cJ_7 := (kJ).cell 7 rfl; rw [if_pos (by rfl)]; exact oV
    · rintro sJ wJ hbJ hunJ hdJ
      have sv42 : sJ 42 = .agg #[Value.slice A1.sa c.store.length A1.sc, Value.slice A1.ta c.tape.length A1.tc, .int .i64 c.taken, Value.slice A1.pa c.printed.length A1.pc, .int .i64 c.time, .int .i64 c.pc, .int .i64 c.done, .int .i64 c.why] := (hdJ 13 (by kernel_rfl) 42 rfl).elim fun _ h => h.elim fun _ h => h.2.2
      rw [if_pos (by rfl)]; unfold opF; go_simp; refine (seal_any c A1 _ (hR1.at hbJ) hokc.out).mono ?_; rintro e wN ⟨rfl, hbN⟩; exact ⟨_, rfl, rfl, hbN⟩
    · rintro sJ wJ hbJ hunJ hdJ
      have sv33 : sJ 33 = .int .i64 (bn : Int) := (hdJ 4 (by kernel_rfl) 33 rfl).elim fun _ h => h.elim fun _ h => h.2.2
      have sv38 : sJ 38 = .int .i64 c.pc := (hdJ 9 (by kernel_rfl) 38 rfl).elim fun _ h => h.elim fun _ h => h.2.2
      have sv43 : sJ 43 = .int .i64 (sealI' c) := (hdJ 14 (by kernel_rfl) 43 rfl).elim fun _ h => h.elim fun _ h => h.2.2
      rw [if_pos (by rfl)]; exact oV
    · rintro sJ wJ hbJ hunJ hdJ
      have sv44 : sJ 44 = .agg #[.int .i64 (bn : Int), .int .i64 c.pc, .int .i64 (sealI' c)] := (hdJ 15 (by kernel_rfl) 44 rfl).elim fun _ h => h.elim fun _ h => h.2.2
      rw [if_pos (by rfl)]; exact opV_slice (by intro K' hK; unfold opF; go_simp; exact hK)
    intro s31 w29 aJ bJ hb30 hunJ hvJ hapJ; replace Z8 := (hunJ 8 (by decide) (un_of (by kernel_rfl))).trans Z8; clear Z10 Z27 Z28; have Z29 : s31 29 = v8 := (hvJ 0 (by decide)).2.2.2 29 rfl; obtain ⟨gw45, gm45, gh45, hq45⟩ := hvJ 16 (by decide); obtain ⟨B45, Z45, gl45, gr45, Y45'⟩ := hq45 45 rfl; clear hq45; clear hunJ hvJ hapJ; have gS := HB.out.size
    have ob8_b45 : B8 < B45 := by have := Q8; omega
    have ob10_b45 : B10 < B45 := by have := Q10; omega
    have oX_b45 : X < B45 := by have := qX; omega
    have oY_b45 : Y < B45 := by have := qY; omega
    have oZ_b45 : Z < B45 := by have := qZ; omega
    have oM_b45 : M < B45 := by have := qM; omega
    have gb45 : w.heap.size ≤ B45 := by omega
    have nhO_b45 : ∀ g, v8.ownBlock = some g → g < B45 := fun g hg => by have := (World.ownsRow.lt hO g hg).2; omega
    clear Q8 Q10 qX qY qZ qM; replace hT := TW.at hT hb30; replace hR1 := RdSt.at hR1 hb30; replace hL := LoopAt.at hL hb30; replace hO := Own.at hO hb30; revert HB; revert kM; revert kZ; revert kY; revert kX; revert Y10; revert Y8; refine uA hb30 ?_; clear hb30; intro Y8 Q8 Y10 Q10 kX qX kY qY kZ qZ kM qM HB; have Y45 := Y45'; clear Y45'; have Q45 := Y45.1; clear hR1; have hDl := (Array.getElem?_eq_some_iff.1 hL.1).1; have hcl9 := cnt_le (every := ev) (most := mn) hev1; have hln := logU_len s fs ev mn i
    have ab8 : v8.ownBlock ≠ some B8 := fun e => by have n0 := (World.ownsRow.lt hO B8 e).1; omega
    have ab10 : v8.ownBlock ≠ some B10 := fun e => by have n0 := (World.ownsRow.lt hO B10 e).1; omega
    have aX : v8.ownBlock ≠ some X := fun e => by have n0 := (World.ownsRow.lt hO X e).1; omega
    have aY : v8.ownBlock ≠ some Y := fun e => by have n0 := (World.ownsRow.lt hO Y e).1; omega
    have aZ : v8.ownBlock ≠ some Z := fun e => by have n0 := (World.ownsRow.lt hO Z e).1; omega
    have aM : v8.ownBlock ≠ some M := fun e => by have n0 := (World.ownsRow.lt hO M e).1; omega
    have ab45 : v8.ownBlock ≠ some B45 := fun e => by have n0 := (World.ownsRow.lt hO B45 e).1; have n9 := nhO_b45 B45 e; omega
    have hzz := HB.out.size; refine listF_step rfl (fun K' hK => ?_); refine opF_app (d := 46) rfl (by decide) (.tmp 29) (.tmp 45) _ rfl 85 i0 _ 24 Tryz.underlying74 hi0 hz0 hy0 hx0 rfl (by decide) (fun _ => rfl) mrk_one (D + 2) v8 (logU s fs ev mn i) [⟨(bn : Int), c.pc, sealI' c⟩] (some ⟨B45, 0, none⟩) 1 (by go_simp) (by go_simp) hO (Cells.rd (f := Mrk.cs) (m := 3) (l := [⟨(bn : Int), c.pc, sealI' c⟩]) (fun _ => rfl) Y45) (by unfold maxLen; simp; omega) (by simp; omega) (by omega) (fun v46 w32 hO' hG hV => hK _ _ ?_); clear hK K' hzz; clear Q8 Q10 qX qY qZ qM Q45; replace Y8 := Y8.grown hG ab8; clear ab8; replace Y10 := Y10.grown hG ab10; clear ab10; replace kX := kX.grown hG aX; clear aX; replace kY := kY.grown hG aY; clear aY; replace kZ := kZ.grown hG aZ; clear aZ; replace kM := kM.grown hG aM; clear aM; replace Y45 := Y45.grown hG ab45; clear ab45; replace hT := TW.grown hT hG hV; replace hL := LoopAt.oldB hL (oldB_grown (Bs := v8.ownBlock.toList) hG (fun g hg => by simp [hg])) (fun b hb => by have := (World.ownsRow.lt hO b (by simpa using hb)).1; omega)
    replace HB := hid (HB.out.grown hG (fun k hk => .inl (by have := (World.ownsRow.lt hO k hk).1; omega))); clear hO; have hO := hO'; clear hO' hG hV; clear nhO_b45; have Q8 := Y8.1; have Q10 := Y10.1; have qX := kX.1; have qY := kY.1; have qZ := kZ.1; have qM := kM.1; have Q45 := Y45.1; obtain ⟨a46, c46, rfl, hr46, hn46⟩ := Own.slice (f := Mrk.cs) (m := 3) (fun _ => rfl) hO; clear hr46 hn46; have cb8_0 := Y8.cell 0 rfl; have zb8 := Y8.2.2; refine pl ?_; refine sto Y8 ?_; clear Y8 cb8_0 zb8; intro w33 Y8 hb34; clear Q8 Q10 qX qY qZ qM Q45; replace hT := TW.old hT hb34 (by simp); replace hL := LoopAt.oldB hL hb34 (by first | (simp; done) | (simp; omega)); replace hO := Own.oldB hO hb34 XW57c; revert HB; revert Y45; revert kM; revert kZ; revert kY; revert kX; revert Y10; refine uO hb34 ?_; clear hb34; intro Y10 Q10 kX qX kY qY kZ qZ kM qM Y45 Q45 HB; have Q8 := Y8.1; clear Z8 Z29 Z45; refine lx [] ?_; intro s35; refine nli ?_
    have hpl2 : (pre ++ [(i, A')]).length = i + 1 := by simp [← Hpl.out]
    refine ⟨.inl ⟨rfl, ?_⟩, hL⟩; rw [hpl2, Hbn.out, Hc.out]; exact ⟨(Value.slice a46 (logU s fs ev mn i ++ [(⟨(bn : Int), c.pc, sealI' c⟩ : Mrk)]).length c46), ⟨HB.out.toBelow, (Cells.conv Y8 (by simp [logU_len])), Y10, kX, kY, kZ, by rw [logU_succ (s2 := c) (by rw [Hbn.out, Hc.out]), Hbn.out]; exact hO⟩, hT⟩
   case hdone =>
    clear Y4 Y8 Y10 kX kY kZ Q4 Q8 Q10 qX qY qZ hT HB; rintro xs Wx ⟨v8, h1, -⟩ hFin hDm; rw [hDD] at hDm ⊢
    simp only [mkA_tmps, mkA_defers, mkA_eta]
    obtain ⟨hbW, k8', k10', kX', kY', kZ', hO⟩ := h1; clear k10' kX' kY' kZ'; have HB := hid (OldB.nil (Bs := []) hbW); clear hbW; rw [hFin] at hO; obtain ⟨ra, rc, rfl, -, -⟩ := Own.slice (f := Mrk.cs) (m := 3) (fun _ => rfl) hO; have Y8 := k8'; clear k8'; have Q8 := Y8.1
    refine nr ?_; intros; have cb8_0 := Y8.cell 0 rfl; refine pl ?_; have zb8 := Y8.2.2; refine pl ?_; refine sto Y8 ?_; clear Y8 cb8_0 zb8; intro w36 Y8 hb37; clear Q8; replace hDm := Dfr.oldB hDm hb37 (by first | (simp; done) | (simp; omega)); replace hO := Own.oldB hO hb37 XW57c; replace HB := mO HB hb37; clear hb37; have Q8 := Y8.1; refine pl ?_; clear Z10 Z26; refine lx [9] ?_; clear Z8; intro s38 Z8 Z9; refine ln ?_; intros
    obtain ⟨ra2, rc2, hv9, hr9, hn9⟩ := Own.slice (f := Mrk.cs) (m := 3) (fun _ => rfl) hO
    cases hv9
    have kRb8 := Y8.put (o := .deferred none) (show B8 ≠ D by omega); have cRb8_0 := kRb8.cell 0 rfl; refine retMark_F _ hDm (res_ct Tryz.results39 ((getD_F (by decide)).trans Z8) (load_t74 cRb8_0) ((getD_F (by decide)).trans Z9)) ?_; refine ⟨ra, rc, by rw [Hl9.out]; rfl, ?_, fun b hb => by have := hn9 b hb; omega, bel_put HB.out.toBelow (by omega)⟩; rw [Hl9.out]; exact Rd.put hr9 (fun b hb => by have := hn9 b hb; omega)
   case hleave =>
    rintro Wx h _; exact h.elim
 ·skip
  have e9 := Hhr.out.symm.trans (logR_bad HA.out he)
  obtain ⟨rfl, rfl⟩ : l = [] ∧ er = ea := by simpa using e9
  refine region_F ?_; refine P2 ?_; refine lx [16] ?_; clear Z1 Z2 Z3 Z4 Z8 Z9; intro s39 Z1 Z2 Z3 Z4 Z8 Z9 Z16; refine ln ?_; intros
  refine cond_t ?_
  refine nr ?_; intros; refine pl ?_; have cb8_0 := Y8.cell 0 rfl; have zb8 := Y8.2.2; refine pl ?_; refine sto Y8 ?_; clear Y8 cb8_0 zb8; intro w40 Y8 hb41; clear Q4 Q8; revert HB; revert Y4; refine uO hb41 ?_; clear hb41; intro Y4 Q4 HB; have Q8 := Y8.1; refine pl ?_; clear Z9 Z1 Z2 Z3 Z4 Z16; refine lx [9] ?_; clear Z8; intro s42 Z8 Z9; refine ln ?_; intros
  have cb8_0 := Y8.cell 0 rfl; refine XW57d ?_; exact ⟨none, 0, rfl, .inl rfl, (fun b hb => by cases hb), HB.out.toBelow⟩

end Go.Proofs.YtleknidlgmmgbaaGreat
