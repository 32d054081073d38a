/- The program: Half. -/
import Derived.Test.YtleknidlgmmgbaaGreattsW33
import Derived.Test.YtleknidlgmmgbaaGreattsCZ
set_option linter.all false
namespace Go.Proofs.YtleknidlgmmgbaaGreat

open Go.RowKit

theorem load_t22 {w : World} {b o : Nat} {x0 : Value} (h0 : w.cell? ⟨b, o, none⟩ = some x0) :
    (loadVar 22 ⟨b, o, none⟩).run Tryz.prog w = .ok (x0) w := by
  simp [go_sem, h0]


theorem nn_mono (every most i : Nat) : nn every most i ≤ nn every most (i + 1) := by unfold nn; rw [Nat.add_mul, Nat.one_mul]; omega
theorem nn_lt_cnt {every most i : Nat} (he : 1 ≤ every) (hi : i < cntN every most) : nn every most i = i * every := by have := end_gt he hi; unfold nn; omega
theorem dif_eq {s : St4} {fs : List Flt} {every most i : Nat} (he : 1 ≤ every) (hi : i < cntN every most) : difI s fs every most i = decide (run12 s fs (nn every most (i + 1)) ≠ after12 [] 0 (nn every most (i + 1) - nn every most i) (run12 s fs (nn every most i))) := by
  unfold difI; rw [after_nil, after_nil, nn_lt_cnt he hi]; rfl
theorem cnt_nn {every most : Nat} (he : 1 ≤ every) : nn every most (cntN every most) = most := by have := cnt_last he (Nat.le_refl (cntN every most)); unfold nn; omega
theorem par_eq {i : Nat} {odd : Bool} : (((i : Int).tmod 2 == 1) == odd) = (decide (i % 2 = 1) == odd) := by
  have e : (i : Int).tmod 2 = ((i % 2 : Nat) : Int) := by rw [Int.tmod_eq_emod_of_nonneg (by omega)]; omega
  rw [e]
  congr 1
  rw [Bool.eq_iff_iff]; simp; omega
theorem halfU_yes {s : St4} {fs : List Flt} {every most i : Nat} {odd : Bool} (h1 : (decide (i % 2 = 1) == odd) = true) (h2 : difI s fs every most i = true) : halfU s fs every most odd (i + 1) = halfU s fs every most odd i ++ [(i : Int)] := by
  show (if _ then _ else _) = _
  rw [h1, h2]; rfl
theorem halfU_no {s : St4} {fs : List Flt} {every most i : Nat} {odd : Bool} (h : (decide (i % 2 = 1) == odd) = false ∨ difI s fs every most i = false) : halfU s fs every most odd (i + 1) = halfU s fs every most odd i := by
  show (if _ then _ else _) = _
  rw [if_neg]
  rcases h with h | h <;> simp [h]
theorem halfU_len {s : St4} {fs : List Flt} {every most : Nat} {odd : Bool} : ∀ i, (halfU s fs every most odd i).length ≤ i
  | 0 => Nat.le_refl _
  | i + 1 => by
    have := halfU_len (s := s) (fs := fs) (every := every) (most := most) (odd := odd) i; unfold halfU
    split
    · simp; exact this
    · omega
/-- what Half answers -/
def halfR (s : St4) (fs : List Flt) (every most : Int) (odd : Bool) : List Int × Int :=
  if askErr12 s fs most ≠ 0 then ([], askErr12 s fs most) else if inI every 1 1000 = false then ([], 7) else (halfL s fs every.toNat most.toNat odd, 0)
theorem halfR_bad {s : St4} {fs : List Flt} {every most ea : Int} {odd : Bool} (h : askErr12 s fs most = ea) (he : ea ≠ 0) : halfR s fs every most odd = ([], ea) := by unfold halfR; rw [h, if_pos he]
theorem halfR_bad2 {s : St4} {fs : List Flt} {every most : Int} {odd : Bool} (h : askErr12 s fs most = 0) (he : inI every 1 1000 = false) : halfR s fs every most odd = ([], 7) := by unfold halfR; rw [h, if_neg (by decide), if_pos he]
theorem halfR_ok {s : St4} {fs : List Flt} {every most : Nat} {odd : Bool} (h : askErr12 s fs most = 0) (he : inI every 1 1000 = true) : halfR s fs every most odd = (halfL s fs every most odd, 0) := by
  unfold halfR; rw [h, if_neg (by decide), if_neg (by rw [he]; decide), Int.toNat_natCast, Int.toNat_natCast]
theorem TW.grown {av : List Nat} {w w' : World} {M : Nat} {s : St4} {fs : List Flt} {n : Int} {v v' : Value} (h : TW (v.ownBlock.toList ++ av) w M s fs n) (hG : w.grownBy w' v.ownBlock) (hV : v'.ownBlock = v.ownBlock ∨ v'.ownBlock = some w.heap.size) : TW (v'.ownBlock.toList ++ av) w' M s fs n := by
  have ho : OldB v.ownBlock.toList w w' := oldB_grown hG (fun g hg => by simp [hg])
  rcases hV with e | e
  · rw [e]; exact h.old ho (fun b hb => List.mem_append_left _ hb)
  · rw [e]
    have h2 := h.avoid (j := w.heap.size) (Nat.le_refl _); refine (h2.old ho (fun b hb => List.mem_cons_of_mem _ (List.mem_append_left _ hb))).less (fun k hk => ?_)
    rcases List.mem_append.1 hk with hk | hk
    · simp at hk; rw [hk]; exact List.mem_cons_self ..
    · exact List.mem_cons_of_mem _ (List.mem_append_right _ hk)
/-- what the rounds of Half have found -/
structure HalfJ (s : St4) (fs : List Flt) (every most : Nat) (odd : Bool) (w0 : World) (M B9 B10 B12 B13 X Y Z D : Nat) (v : Value) (i : Nat) (W : World) : Prop where
  b : Below w0.heap.size w0 W
  c9 : Cells W B9 [.bool odd]
  c10 : Cells W B10 [v]
  c12 : Cells W B12 [.pointer (some ⟨M, 0, none⟩)]
  c13 : Cells W B13 [.int .i64 ((nn every most i : Nat) : Int)]
  cX : Cells W X [.pointer (some ⟨M, 0, none⟩)]
  cY : Cells W Y [.int .i64 (most : Int)]
  cZ : Cells W Z [.int .i64 (every : Int)]
  o : Own int1 1 3 (D + 2) W v (halfU s fs every most odd i)
theorem HalfJ.old {s : St4} {fs : List Flt} {every most : Nat} {odd : Bool} {w0 : World} {M B9 B10 B12 B13 X Y Z D i : Nat} {v : Value} {W W' : World} (h : HalfJ s fs every most odd w0 M B9 B10 B12 B13 X Y Z D v i W) {k : Nat} (ho : OldB [k] W W') (hk : k < D + 2)
    (h9 : B9 ≠ k) (h10 : B10 ≠ k) (h12 : B12 ≠ k) (h13 : B13 ≠ k) (hX : X ≠ k) (hY : Y ≠ k) (hZ : Z ≠ k) (h0 : w0.heap.size ≤ k) : HalfJ s fs every most odd w0 M B9 B10 B12 B13 X Y Z D v i W' :=
  ⟨h.b.trans (ho.lowN h.b.size (by simp; omega)), h.c9.oldB ho (by simpa using h9), h.c10.oldB ho (by simpa using h10), h.c12.oldB ho (by simpa using h12), h.c13.oldB ho (by simpa using h13), h.cX.oldB ho (by simpa using hX), h.cY.oldB ho (by simpa using hY), h.cZ.oldB ho (by simpa using hZ), Own.oldB h.o ho (fun g hg => by have := (World.ownsRow.lt h.o g hg).1; simp; omega)⟩
theorem HalfJ.at {s : St4} {fs : List Flt} {every most : Nat} {odd : Bool} {w0 : World} {M B9 B10 B12 B13 X Y Z D i : Nat} {v : Value} {W W' : World} (h : HalfJ s fs every most odd w0 M B9 B10 B12 B13 X Y Z D v i W) (hb : Below W.heap.size W W') : HalfJ s fs every most odd w0 M B9 B10 B12 B13 X Y Z D v i W' :=
  ⟨h.b.trans (hb.mono h.b.size), h.c9.at hb, h.c10.at hb, h.c12.at hb, h.c13.at hb, h.cX.at hb, h.cY.at hb, h.cZ.at hb, Own.at h.o hb⟩

theorem XW34b {A : Prop} (e : A := by exact (fun g hg => by have n0 := (World.ownsRow.lt hO g hg).1; have nb15 := nhO_b15 g hg; first | (simp; done) | (simp; omega))) : A := e
theorem XW34c {A B1 : Prop} (hX1 : B1) (e : B1 → A := by intro hX1; exact retM_F _ (res_ct Tryz.results30 ((getD_F (by decide)).trans sl10) (load_t22 cb10_0) ((getD_F (by decide)).trans sl11)) hX1) : A := e hX1
set_option maxRecDepth 100000 in
set_option maxHeartbeats 32000000 in
theorem thalf_v (s : St4) (A : SA) (af : Option Addr) (cf : Nat) (fs : List Flt) (every most er : Int) (odd : Bool) (l : List Int) (w : World) (hR : RdSt w s A) (hL : LenI s) (hlf : fs.length ≤ 9223372036854775807) (hF : RdFl w af fs) (hhr : halfR s fs every most odd = (l, er)) :
    Calls Tryz.prog 30 #[.agg #[.slice A.sa s.store.length A.sc, .slice A.ta s.tape.length A.tc, .int .i64 s.taken, .slice A.pa s.printed.length A.pc, .int .i64 s.time, .int .i64 s.pc, .int .i64 s.done, .int .i64 s.why], .slice af fs.length cf, .int .i64 every, .int .i64 most, .bool odd] w (fun e w' => ∃ a c, e = .returned (.tuple #[.slice a l.length c, .int .i64 er]) ∧ RdInts w' a l ∧ (∀ b, a = some b → w.heap.size ≤ b.block) ∧ Below w.heap.size w w') := by
 have hmf := hmf; have HR := hid hR; have HL := hid hL; have HF := hid hF; have Hhr := hid hhr; clear hR hL hF hhr; obtain ⟨ea, hA⟩ : ∃ x, askErr12 s fs most = x := ⟨_, rfl⟩; have HA := hid hA; clear hA; obtain ⟨i0, hi0, hz0, hy0, hx0⟩ := info_parts info_int; refine enterM_F Tryz.func30 rfl Tryz.ntmps30 (by simp) ?_; intro s0 hs; have sl0 : s0 0 = .agg #[.slice A.sa s.store.length A.sc, .slice A.ta s.tape.length A.tc, .int .i64 s.taken, .slice A.pa s.printed.length A.pc, .int .i64 s.time, .int .i64 s.pc, .int .i64 s.done, .int .i64 s.why] := hs 0 (by simp); have sl1 : s0 1 = .slice af fs.length cf := hs 1 (by simp); have sl2 : s0 2 = .int .i64 every := hs 2 (by simp); have sl3 : s0 3 = .int .i64 most := hs 3 (by simp); have sl4 : s0 4 = .bool odd := hs 4 (by simp); clear hs; have HB := hid (OldB.refl [] w)
 refine nr ?_; intros; refine pa (fun w1 B5 hB kb5 hb2 => ?_); have gb5 := HB.out.gB hB; have eb5 := eB hB; clear hB; replace HB := bE HB hb2; clear hb2; have qb5 := kb5.1; refine pa (fun w3 B9 hB kb9 hb4 => ?_); have gb9 := HB.out.gB hB; have ob5_b9 := oB qb5 hB; have eb9 := eB hB; clear hB; clear qb5; revert HB; revert kb5; refine uA hb4 ?_; clear hb4; intro kb5 qb5 HB; have qb9 := kb9.1; refine pa (fun w5 B10 hB kb10 hb6 => ?_); have gb10 := HB.out.gB hB; have ob5_b10 := oB qb5 hB; have ob9_b10 := oB qb9 hB; have eb10 := eB hB; clear hB; clear qb5 qb9; revert HB; revert kb9; revert kb5; refine uA hb6 ?_; clear hb6; intro kb5 qb5 kb9 qb9 HB; have qb10 := kb10.1; refine pl ?_; clear sl0 sl4; refine lx [5,9,10] ?_; clear sl1 sl2 sl3; intro s7 sl1 sl2 sl3 sl5 sl9 sl10; refine ln ?_; intros
 refine wp_scope_straight ?_
 refine nr ?_; intros; have cb5 := clx kb5
 refine P3 ?_
 refine cal (tcheck_v s A af cf fs most ea _ (HR.out.old HB.out) HL.out (Rd.oldB HF.out HB.out (by simp)) hlf HA.out) ?_; rintro e w8 ⟨rfl, hb9⟩; refine ⟨_, rfl, ?_⟩; clear cb5; clear qb5 qb9 qb10; revert HB; revert kb10; revert kb9; revert kb5; refine uA hb9 ?_; clear hb9; intro kb5 qb5 kb9 qb9 kb10 qb10 HB; refine pl ?_; refine lx [11] ?_; clear sl1 sl2 sl3 sl5 sl9 sl10; intro s10 sl1 sl2 sl3 sl5 sl9 sl10 sl11; refine ln ?_; intros
 by_cases he : ea = 0
 ·skip
  subst he; obtain ⟨hok, hfl, hfo, hm1, hm2⟩ := ask12_zero.1 HA.out; have Hok := hid hok; have Hfo := hid hfo; clear hok hfo; refine region_F ?_; refine P2 ?_; refine lx [23] ?_; clear sl1 sl2 sl3 sl5 sl9 sl10 sl11; intro s11 sl1 sl2 sl3 sl5 sl9 sl10 sl11 sl23; refine ln ?_; intros
  refine cond_f ?_
  refine nr ?_; intros; refine pl ?_; refine cal (tout_any every 1 1000 _) ?_; rintro e w' ⟨rfl, rfl⟩; refine ⟨_, rfl, ?_⟩; clear sl11 sl23; refine lx [26] ?_; clear sl1 sl2 sl3 sl5 sl9 sl10; intro s13 sl1 sl2 sl3 sl5 sl9 sl10 sl26; refine ln ?_; intros
  refine cond_E sl26 (by decide) ?_ ?_ <;> (clear sl26; intro h26 sl26)
  ·skip
   have e9 := Hhr.out.symm.trans (halfR_bad2 HA.out (by simpa using h26))
   obtain ⟨rfl, rfl⟩ : l = [] ∧ er = 7 := by simpa using e9
   refine nr ?_; intros; have cb10_0 := kb10.cell 0 rfl; have zb10 := kb10.2.2; refine pl ?_; refine sto kb10 ?_; clear kb10 cb10_0 zb10; intro w14 kb10 hb15; clear qb5 qb9 qb10; revert HB; revert kb9; revert kb5; refine uO hb15 ?_; clear hb15; intro kb5 qb5 kb9 qb9 HB; have qb10 := kb10.1; refine pl ?_; clear sl1 sl2 sl3 sl5 sl9 sl26; refine lx [11] ?_; clear sl10; intro s16 sl10 sl11; refine ln ?_; intros
   (try refine noGoto_r ?_)
   have cb10_0 := kb10.cell 0 rfl; refine XW34c ?_; exact ⟨none, 0, rfl, .inl rfl, (fun b hb => by cases hb), HB.out.toBelow⟩
  ·skip
   have hev := (inI_iff every 1 1000).1 (by simpa using h26); obtain ⟨hev1, hev2⟩ := hev; obtain ⟨mn, rfl⟩ : ∃ mn : Nat, most = (mn : Int) := ⟨most.toNat, by omega⟩; obtain ⟨ev, rfl⟩ : ∃ ev : Nat, every = (ev : Int) := ⟨every.toNat, by omega⟩; have e9 := Hhr.out.symm.trans (halfR_ok HA.out (by simpa using h26))
   obtain ⟨hl9, rfl⟩ : l = halfL s fs ev mn odd ∧ er = 0 := by simpa using e9
   have Hl9 := hid hl9; clear e9 hl9 h26
   replace hev1 : 1 ≤ ev := by omega
   replace hev2 : ev ≤ 1000 := by omega
   refine nr ?_; intros; have cb5 := clx kb5; refine P2 ?_; refine cal (tstart_any s A af cf fs _ (HR.out.old HB.out) (Rd.oldB HF.out HB.out (by simp)) hfl Hfo.out) ?_; rintro e w17 ⟨M, rfl, gM0, hTW, hb18⟩
   have gM : w.heap.size ≤ M := by have := HB.out.size; omega
   have ob9M : B9 < M := by have := qb9; omega
   have ob10M : B10 < M := by have := qb10; omega
   have hT := hTW [B10] (fun k hk => by simp at hk; subst hk; exact ⟨qb10, HR.out.freeB gb10⟩); clear hTW; refine ⟨_, rfl, ?_⟩; clear cb5; clear qb5 qb9 qb10; revert HB; revert kb10; revert kb9; revert kb5; refine uA hb18 ?_; clear hb18; intro kb5 qb5 kb9 qb9 kb10 qb10 HB; have HN := hid (OldB.refl [] w17); refine pa (fun w19 B12 hB kb12 hb20 => ?_); have gb12 := HB.out.gB hB; have lHN_b12 := HN.out.gB hB; have ob5_b12 := oB qb5 hB; have ob9_b12 := oB qb9 hB; have ob10_b12 := oB qb10 hB; have eb12 := eB hB; clear hB; clear qb5 qb9 qb10; revert HB; revert HN; revert kb10; revert kb9; revert kb5; refine uA hb20 ?_; clear hb20; intro kb5 qb5 kb9 qb9 kb10 qb10 HN HB; have qb12 := kb12.1
   have oMb12 : M < B12 := by have := hT.lt; omega
   have cb12_0 := kb12.cell 0 rfl; have zb12 := kb12.2.2; refine pl ?_; refine sto kb12 ?_; clear kb12 cb12_0 zb12; intro w21 kb12 hb22; clear qb5 qb9 qb10 qb12; revert HB; revert HN; revert kb10; revert kb9; revert kb5; refine uO hb22 ?_; clear hb22; intro kb5 qb5 kb9 qb9 kb10 qb10 HN HB; have qb12 := kb12.1; replace hT := TW.at hT HN.out.toBelow; clear HN; clear sl1 sl5 sl26; refine lx [12] ?_; clear sl2 sl3 sl9 sl10; intro s23 sl2 sl3 sl9 sl10 sl12; refine lr ?_; intros; have HN2 := hid (OldB.refl [] w21); refine pa (fun w24 B13 hB kb13 hb25 => ?_); have gb13 := HB.out.gB hB; have lHN2_b13 := HN2.out.gB hB; have ob5_b13 := oB qb5 hB; have ob9_b13 := oB qb9 hB; have ob10_b13 := oB qb10 hB; have ob12_b13 := oB qb12 hB; have eb13 := eB hB; clear hB; clear qb5 qb9 qb10 qb12; revert HB; revert HN2; revert kb12; revert kb10; revert kb9; revert kb5; refine uA hb25 ?_; clear hb25; intro kb5 qb5 kb9 qb9 kb10 qb10 kb12 qb12 HN2 HB; have qb13 := kb13.1
   have oMb13 : M < B13 := by have := hT.lt; omega
   replace hT := hT.avoid (j := B13) eb13; have cb13_0 := kb13.cell 0 rfl; have zb13 := kb13.2.2; refine pl ?_; refine sto kb13 ?_; clear kb13 cb13_0 zb13; intro w26 kb13 hb27; clear qb5 qb9 qb10 qb12 qb13; revert HB; revert HN2; revert kb12; revert kb10; revert kb9; revert kb5; refine uO hb27 ?_; clear hb27; intro kb5 qb5 kb9 qb9 kb10 qb10 kb12 qb12 HN2 HB; have qb13 := kb13.1; replace hT := TW.at hT HN2.out.toBelow; clear HN2; refine lx [13] ?_; clear sl2 sl3 sl9 sl10 sl12; intro s28 sl2 sl3 sl9 sl10 sl12 sl13; refine ln ?_; intros
   refine wp_label ?_
   refine nr ?_; intros; have cb12_0 := kb12.cell 0 rfl
   refine P3 ?_
   refine listF_step rfl (fun K' hK => ?_); unfold opF; go_simp; refine (stretches_any M ev mn _).mono ?_; rintro e w29 ⟨X, Y, Z, rfl, kX', kY', kZ', ⟨gX', gY', gZ'⟩, hb30⟩
   have oMX : M < X := by have := hT.lt; omega
   have oMY : M < Y := by have := hT.lt; omega
   have oMZ : M < Z := by have := hT.lt; omega
   have ob5_X : B5 < X := by have := gX'; omega
   have ob9_X : B9 < X := by have := gX'; omega
   have ob10_X : B10 < X := by have := gX'; omega
   have ob12_X : B12 < X := by have := gX'; omega
   have ob13_X : B13 < X := by have := gX'; omega
   have ob5_Y : B5 < Y := by have := gY'; omega
   have ob9_Y : B9 < Y := by have := gY'; omega
   have ob10_Y : B10 < Y := by have := gY'; omega
   have ob12_Y : B12 < Y := by have := gY'; omega
   have ob13_Y : B13 < Y := by have := gY'; omega
   have ob5_Z : B5 < Z := by have := gZ'; omega
   have ob9_Z : B9 < Z := by have := gZ'; omega
   have ob10_Z : B10 < Z := by have := gZ'; omega
   have ob12_Z : B12 < Z := by have := gZ'; omega
   have ob13_Z : B13 < Z := by have := gZ'; omega
   refine ⟨_, rfl, hK _ _ ?_⟩; clear hK K'; clear cb12_0; clear qb5 qb9 qb10 qb12 qb13; replace hT := TW.at hT hb30; revert HB; revert kb13; revert kb12; revert kb10; revert kb9; revert kb5; refine uA hb30 ?_; clear hb30; intro kb5 qb5 kb9 qb9 kb10 qb10 kb12 qb12 kb13 qb13 HB; have kX := kX'; clear kX'; have qX := kX.1; have kY := kY'; clear kY'; have qY := kY.1; have kZ := kZ'; clear kZ'; have qZ := kZ.1; clear sl2 sl3; refine lx [33] ?_; clear sl9 sl10 sl12 sl13; intro s31 sl9 sl10 sl12 sl13 sl33; refine ln ?_; intros
   obtain ⟨D, hDD⟩ : ∃ d, w29.heap.size = d := ⟨_, rfl⟩
   have db9 : B9 < D := by have := kb9.1; omega
   have db10 : B10 < D := by have := kb10.1; omega
   have db12 : B12 < D := by have := kb12.1; omega
   have db13 : B13 < D := by have := kb13.1; omega
   have dX : X < D := by have := kX.1; omega
   have dY : Y < D := by have := kY.1; omega
   have dZ : Z < D := by have := kZ.1; omega
   have dM : M < D := by have := hT.lt; omega
   have dwD : w.heap.size ≤ D := by have := HB.out.size; omega
   have hJ0 : ∃ v, HalfJ s fs ev mn odd w M B9 B10 B12 B13 X Y Z D v 0 w29 ∧ TW (v.ownBlock.toList ++ [B13, B10, D + 1]) w29 M (run12 s fs (nn ev mn 0)) fs ((nn ev mn 0 : Nat) : Int) := ⟨.slice none 0 0, ⟨HB.out.toBelow, kb9, kb10, kb12, by rw [nn_zero]; exact kb13, kX, kY, kZ, Own.nil _ _ _ _ _⟩, by rw [nn_zero]; exact (hT.avoid (j := D + 1) (by omega)).less (by simp [Value.ownBlock])⟩; have HJ0 := hid hJ0; clear hJ0; refine wp_range_r (α := Nat × SA) (enc := fun x : Nat × SA => #[.int .i64 (x.1 : Int), .agg #[.slice x.2.sa (run12 s fs (nn ev mn x.1)).store.length x.2.sc, .slice x.2.ta (run12 s fs (nn ev mn x.1)).tape.length x.2.tc, .int .i64 (run12 s fs (nn ev mn x.1)).taken, .slice x.2.pa (run12 s fs (nn ev mn x.1)).printed.length x.2.pc, .int .i64 (run12 s fs (nn ev mn x.1)).time, .int .i64 (run12 s fs (nn ev mn x.1)).pc, .int .i64 (run12 s fs (nn ev mn x.1)).done, .int .i64 (run12 s fs (nn ev mn x.1)).why]]) (gf := 80) (lb := #[.pointer (some ⟨X, 0, none⟩), .pointer (some ⟨Y, 0, none⟩), .pointer (some ⟨Z, 0, none⟩)]) ?hg ?eg (fun _ => rfl) (fun pre W => ∃ v, HalfJ s fs ev mn odd w M B9 B10 B12 B13 X Y Z D v pre.length W ∧ TW (v.ownBlock.toList ++ [B13, B10, D + 1]) W M (run12 s fs (nn ev mn pre.length)) fs ((nn ev mn pre.length : Nat) : Int)) (fun pre x W => x.1 = pre.length ∧ x.1 < cntN ev mn ∧ ∃ v, HalfJ s fs ev mn odd w M B9 B10 B12 B13 X Y Z D v x.1 W ∧ TW (v.ownBlock.toList ++ [B13, B10, D + 1]) W M (run12 s fs (nn ev mn (x.1 + 1))) fs ((nn ev mn (x.1 + 1) : Nat) : Int) ∧ RdSt W (run12 s fs (nn ev mn x.1)) x.2 ∧ ∀ k ∈ M :: (v.ownBlock.toList ++ [B13, B10, D + 1]), x.2.free (run12 s fs (nn ev mn x.1)) k) (fun xs => xs.length = cntN ev mn) (fun W => False) ?hJ ?hD ?h0 ?hiter ?hround ?hdone ?hleave
   case hg => rw [mkA_eval]; go_simp
   case eg => intro args w; rfl
   case hJ =>
    rintro pre Wx r r' ⟨v, h1, h2⟩ hLx; rw [hDD] at hLx ⊢; exact ⟨v, h1.old oldB_put (by omega) (by omega) (by omega) (by omega) (by omega) (by omega) (by omega) (by omega) (by omega), h2.old oldB_put (by simp)⟩
   case hD =>
    rintro Wx r r' h hLx; clear hLx; exact h
   case h0 =>
    intro r; have hb : Below w29.heap.size w29 ((w29.alloc (.deferred (some []))).alloc (.loop r)) := ((Below.refl _ _).alloc (Nat.le_refl _) _).alloc (by simp) _; obtain ⟨v, h1, h2⟩ := HJ0.out; exact ⟨v, h1.at hb, h2.at hb⟩
   case hiter =>
    rintro r r' Wx ⟨v0, h1, h2⟩ hLx hy; rw [hDD] at hLx hy ⊢; refine (stretches1_any (v0.ownBlock.toList ++ [B13, B10, D + 1]) s M X Y Z (D + 1) fs ev mn (fun i av W => ∃ v, av = v.ownBlock.toList ++ [B13, B10, D + 1] ∧ HalfJ s fs ev mn odd w M B9 B10 B12 B13 X Y Z D v i W ∧ LoopAt W D r) (fun W => False) Wx Hok.out Hfo.out hfl ⟨hev1, hev2⟩ (by omega) (by have h9 := h2; rw [show ([] : List (Nat × SA)).length = 0 from rfl, nn_zero] at h9; exact h9) (by omega) (by omega) (by omega) ⟨v0, rfl, h1, hLx⟩ (fun i av W W' h ho => by obtain ⟨v, e, h8, h9⟩ := h; exact ⟨v, e, h8.old ho (by omega) (by omega) (by omega) (by omega) (by omega) (by omega) (by omega) (by omega) (by omega), h9.oldB ho (by simp; omega)⟩) (fun i av W h => by obtain ⟨v, e, h8, h9⟩ := h; exact ⟨h8.cX, h8.cY, h8.cZ, fun k hk => by have a2 := h8.c10.1; have a4 := h8.c13.1; have a3 := (Array.getElem?_eq_some_iff.1 h9.1).1; rw [e] at hk; rcases List.mem_append.1 hk with hk | hk; exact (World.ownsRow.lt h8.o k (by simpa using hk)).2; simp at hk; omega⟩) (fun i av A W hi hT hR hAf h => ?_)).mono ?_
    · obtain ⟨v, rfl, h8, h9⟩ := h
      refine yield_mono (hy (List.replicate i (0, SA.none)) (i, A) W ⟨by simp, hi, v, h8, hT, hR, hAf⟩ h9) ?_; rintro e W' (⟨rfl, ⟨v', h3, h4⟩, h5⟩ | ⟨rfl, h3, h4⟩)
      · rw [show (List.replicate i ((0, SA.none) : Nat × SA) ++ [(i, A)]).length = i + 1 by simp] at h3 h4; exact .inl ⟨rfl, _, h4, v', rfl, h3, h5⟩
      · exact h3.elim
    · rintro e W' ⟨hv, ⟨av', h3, v', rfl, h4, h5⟩ | h3⟩
      · refine ⟨hv, .inl ⟨List.replicate (cntN ev mn) (0, SA.none), ⟨v', ?_, ?_⟩, by simp, h5⟩⟩ <;> rw [List.length_replicate]; exact h4; rw [cnt_nn hev1]; exact h3
      · exact h3.elim
   case hround =>
    clear kb5 kb9 kb10 kb12 kb13 kX kY kZ qb5 qb9 qb10 qb12 qb13 qX qY qZ hT HB sl33; rintro pre ⟨i, A'⟩ Wx r ⟨hpl, hic, v10, hj, hT, hRb, hAf⟩ hL; rw [hDD] at hL ⊢
    simp only [zip2, foldl2, mkA_tmps, tm_put, mkA_mk]
    refine wpIn_abs (fun s33 z' => ?_); have t9 := slg z' sl9; clear sl9; have sl9 := t9; clear t9; have t10 := slg z' sl10; clear sl10; have sl10 := t10; clear t10; have t12 := slg z' sl12; clear sl12; have sl12 := t12; clear t12; have t13 := slg z' sl13; clear sl13; have sl13 := t13; clear t13; have sl34 := gu 34 z'; have sl35 := gu 35 z'; clear z'; have Hpl := hid hpl; clear hpl
    (try dsimp only at Hpl hic hj hT hRb hAf)
    (try dsimp only at sl35)
    obtain ⟨hbW, k9', k10', k12', k13', kX', kY', kZ', hO⟩ := hj; obtain ⟨an, han⟩ : ∃ n, nn ev mn i = n := ⟨_, rfl⟩; obtain ⟨bn, hbn⟩ : ∃ n, nn ev mn (i + 1) = n := ⟨_, rfl⟩
    have hab : an ≤ bn := by rw [← han, ← hbn]; exact nn_mono _ _ _
    have hbm : bn ≤ mn := by rw [← hbn]; exact nn_le _ _ _
    have hdf := dif_eq (s := s) (fs := fs) hev1 hic; rw [han] at k13' hRb hAf sl35; rw [han, hbn] at hdf; rw [hbn] at hT; obtain ⟨p, hp⟩ : ∃ p, run12 s fs an = p := ⟨_, rfl⟩; rw [hp] at hRb hAf sl35 hdf; obtain ⟨c, hc⟩ : ∃ c, run12 s fs bn = c := ⟨_, rfl⟩; rw [hc] at hT hdf; have hokp := hid (show OkI p by rw [← hp]; exact after_ok Hfo.out Hok.out); have hokc := hid (show OkI c by rw [← hc]; exact after_ok Hfo.out Hok.out); have Hdf := hid hdf; have Hbn := hid hbn; have Hc := hid hc; clear hdf hbn han hp hc; have wsb : IntKind.i64.wrap ((bn : Int) - (an : Int)) = (bn : Int) - (an : Int) := IntWalk.i64_in _ (by omega); have HB := hid (OldB.nil (Bs := []) hbW); clear hbW; have hTc := hT; obtain ⟨A1, bm1, km1, gm1, kM', hR1, hf1, -, -, -, -, -, hav1⟩ := hTc; have kb9 := k9'; clear k9'; have qb9 := kb9.1; have kb10 := k10'; clear k10'; have qb10 := kb10.1; have kb12 := k12'; clear k12'; have qb12 := kb12.1; have kb13 := k13'; clear k13'; have qb13 := kb13.1
    have kX := kX'; clear kX'; have qX := kX.1; have kY := kY'; clear kY'; have qY := kY.1; have kZ := kZ'; clear kZ'; have qZ := kZ.1; have kM := kM'; clear kM'; have qM := kM.1
    refine nxi ?_
    refine region_FI (ρ := some (D + 1)) rfl ?_; refine pl ?_; clear sl34; refine lx [14] ?_; clear sl9 sl10 sl12 sl13 sl35; intro s34 sl9 sl10 sl12 sl13 sl35 sl14; refine nli ?_
    refine region_FI (ρ := some (D + 1)) rfl ?_; have HN := hid (OldB.refl [] Wx); refine pa (fun w35 B15 hB kb15 hb36 => ?_); have gb15 := HB.out.gB hB; have lHN_b15 := HN.out.gB hB; have ob9_b15 := oB qb9 hB; have ob10_b15 := oB qb10 hB; have ob12_b15 := oB qb12 hB; have ob13_b15 := oB qb13 hB; have oX_b15 := oB qX hB; have oY_b15 := oB qY hB; have oZ_b15 := oB qZ hB; have oM_b15 := oB qM hB
    have nhO_b15 : ∀ g, v10.ownBlock = some g → g < B15 := fun g hg => by have := (World.ownsRow.lt hO g hg).2; omega
    have eb15 := eB hB; clear hB; clear qb9 qb10 qb12 qb13 qX qY qZ qM; replace hO := Own.at hO hb36; revert HB; revert HN; revert kM; revert kZ; revert kY; revert kX; revert kb13; revert kb12; revert kb10; revert kb9; refine uA hb36 ?_; clear hb36; intro kb9 qb9 kb10 qb10 kb12 qb12 kb13 qb13 kX qX kY qY kZ qZ kM qM HN HB; have qb15 := kb15.1
    have oDb15 : D + 1 < B15 := by have := (Array.getElem?_eq_some_iff.1 hL.1).1; omega
    have cb15 := clx kb15; have zb15 := kb15.2.2; refine pl ?_; refine sto kb15 ?_; clear kb15 cb15 zb15; intro w37 kb15 hb38; clear qb9 qb10 qb12 qb13 qX qY qZ qM qb15; replace hO := Own.oldB hO hb38 XW34b; revert HB; revert HN; revert kM; revert kZ; revert kY; revert kX; revert kb13; revert kb12; revert kb10; revert kb9; refine uO hb38 ?_; clear hb38; intro kb9 qb9 kb10 qb10 kb12 qb12 kb13 qb13 kX qX kY qY kZ qZ kM qM HN HB; have qb15 := kb15.1; replace hL := LoopAt.at hL HN.out.toBelow; replace hT := TW.at hT HN.out.toBelow; replace hRb := RdSt.at hRb HN.out.toBelow; replace hR1 := RdSt.at hR1 HN.out.toBelow; clear HN; clear sl35; refine lx [15] ?_; clear sl9 sl10 sl12 sl13 sl14; intro s39 sl9 sl10 sl12 sl13 sl14 sl15; refine nli ?_
    refine ⟨hL, fun r' => ?_⟩; obtain ⟨w40, hwP⟩ : ∃ x, x = w37.putObj (D + 1) (.loop r') := ⟨_, rfl⟩
    have hb41 : OldB [D + 1] w37 w40 := by rw [hwP]; exact oldB_put
    have hLp : LoopAt w40 D r' := by rw [hwP]; exact hL.put
    rw [← hwP]; clear hwP; have hDs := (Array.getElem?_eq_some_iff.1 hL.1).1; clear hL; clear qb9 qb10 qb12 qb13 qX qY qZ qM qb15; replace hT := TW.old hT hb41 (by simp); replace hRb := (by first | exact RdSt.old hRb hb41 | exact RdSt.oldK hRb (hAf _ (by simp)) hb41); replace hR1 := (by first | exact RdSt.old hR1 hb41 | exact RdSt.oldK hR1 (hav1 _ (by simp)) hb41); replace hO := Own.oldB hO hb41 XW34b; revert HB; revert kb15; revert kM; revert kZ; revert kY; revert kX; revert kb13; revert kb12; revert kb10; revert kb9; refine uO hb41 ?_; clear hb41; intro kb9 qb9 kb10 qb10 kb12 qb12 kb13 qb13 kX qX kY qY kZ qZ kM qM kb15 qb15 HB; have hL := hLp; clear hLp
    refine nxi ?_
    have cb9_0 := kb9.cell 0 rfl; have cb10_0 := kb10.cell 0 rfl; have cb12_0 := kb12.cell 0 rfl; have cb13_0 := kb13.cell 0 rfl; have cX_0 := kX.cell 0 rfl; have cY_0 := kY.cell 0 rfl; have cZ_0 := kZ.cell 0 rfl; have cM := clx kM; have cb15 := clx kb15; refine rgI (ρ := some (D + 1)) 5 [?_,?_,?_,?_,?_] ?walk39 ?dep39
    case walk39 =>
     iterate 5 refine rq ?_
     refine walkR_nil (fun X hX w42 hwz hcz => ?_); clear hX hcz
     (try clear X)
     skip; have hb43 := hwz.unDrew; clear hwz; clear cM cX_0 cY_0 cZ_0 cb10_0 cb12_0 cb13_0 cb15 cb9_0; clear qb9 qb10 qb12 qb13 qX qY qZ qM qb15; replace hT := TW.old hT hb43 (by simp); replace hRb := (by first | exact RdSt.old hRb hb43 | exact RdSt.oldK hRb (hAf _ (by simp)) hb43); replace hR1 := (by first | exact RdSt.old hR1 hb43 | exact RdSt.oldK hR1 (hav1 _ (by simp)) hb43); replace hL := LoopAt.oldB hL hb43 (by first | (simp; done) | (simp; omega)); replace hO := Own.oldB hO hb43 XW34b; revert HB; revert kb15; revert kM; revert kZ; revert kY; revert kX; revert kb13; revert kb12; revert kb10; revert kb9; refine uO hb43 ?_; clear hb43; intro kb9 qb9 kb10 qb10 kb12 qb12 kb13 qb13 kX qX kY qY kZ qZ kM qM kb15 qb15 HB; refine P2 ?_; refine lx [16] ?_; clear sl9 sl10 sl12 sl13 sl14 sl15; intro s44 sl9 sl10 sl12 sl13 sl14 sl15 sl16
     refine nli ?_
     refine region_FI (ρ := some (D + 1)) rfl ?_; have cb12_0 := kb12.cell 0 rfl
     refine P3 ?_
     have cM := clx kM; refine pl ?_; have cb13_0 := kb13.cell 0 rfl; have zb13 := kb13.2.2; refine pl ?_; refine sto kb13 ?_; clear kb13 cM cb12_0 cb13_0 zb13; intro w45 kb13 hb46; clear qb9 qb10 qb12 qb13 qX qY qZ qM qb15; replace hT := TW.old hT hb46 (by simp); replace hRb := (by first | exact RdSt.old hRb hb46 | exact RdSt.oldK hRb (hAf _ (by simp)) hb46); replace hR1 := (by first | exact RdSt.old hR1 hb46 | exact RdSt.oldK hR1 (hav1 _ (by simp)) hb46); replace hL := LoopAt.oldB hL hb46 (by first | (simp; done) | (simp; omega)); replace hO := Own.oldB hO hb46 XW34b; revert HB; revert kb15; revert kM; revert kZ; revert kY; revert kX; revert kb12; revert kb10; revert kb9; refine uO hb46 ?_; clear hb46; intro kb9 qb9 kb10 qb10 kb12 qb12 kX qX kY qY kZ qZ kM qM kb15 qb15 HB; have qb13 := kb13.1; clear sl13; refine lx [] ?_; clear sl9 sl10 sl12 sl14 sl15 sl16; intro s47 sl9 sl10 sl12 sl14 sl15 sl16; refine nli ?_
     refine region_FI (ρ := some (D + 1)) rfl ?_
     refine P3 ?_
     have cb9_0 := kb9.cell 0 rfl; refine P2 ?_; clear sl9; refine lx [50] ?_; clear sl10 sl12 sl14 sl15 sl16; intro s48 sl10 sl12 sl14 sl15 sl16 sl50; refine nli ?_
     refine cond_EI sl50 (by decide) ?_ ?_ <;> (clear sl50; intro h50 sl50)
     ·skip
      have H50 := hid (show (decide (i % 2 = 1) == odd) = false by rw [← par_eq]; simpa using h50)
      refine nxi ?_
      clear cb9_0
      have hpl2 : (pre ++ [(i, A')]).length = i + 1 := by simp [← Hpl.out]
      refine ⟨.inl ⟨rfl, ?_⟩, hL⟩; rw [hpl2, Hbn.out, Hc.out]; exact ⟨v10, ⟨HB.out.toBelow, kb9, kb10, kb12, by rw [Hbn.out]; exact kb13, kX, kY, kZ, by rw [halfU_no (.inl H50.out)]; exact hO⟩, hT⟩
     ·skip
      have H50 := hid (show (decide (i % 2 = 1) == odd) = true by rw [← par_eq]; simpa using h50)
      refine nxi ?_
      refine region_FI (ρ := some (D + 1)) rfl ?_; have cb15 := clx kb15; refine pl ?_; refine listF_step rfl (fun K' hK => ?_); unfold opF; go_simp; refine (tstart_any p A' none 0 [] _ hRb (.inl rfl) (by decide) (by intro f hf; cases hf)).mono ?_; rintro e w49 ⟨M2, rfl, gM2', hTW2, hb50⟩
      have oM2_b9 : B9 < M2 := by have := qb9; omega
      have oM2_b10 : B10 < M2 := by have := qb10; omega
      have oM2_b12 : B12 < M2 := by have := qb12; omega
      have oM2_b13 : B13 < M2 := by have := qb13; omega
      have oM2_X : X < M2 := by have := qX; omega
      have oM2_Y : Y < M2 := by have := qY; omega
      have oM2_Z : Z < M2 := by have := qZ; omega
      have oM2_M : M < M2 := by have := qM; omega
      have oM2_b15 : B15 < M2 := by have := qb15; omega
      have nhO_M2 : ∀ g, v10.ownBlock = some g → g < M2 := fun g hg => by have := (World.ownsRow.lt hO g hg).2; omega
      have hDl := (Array.getElem?_eq_some_iff.1 hL.1).1
      have oDM2 : D + 1 < M2 := by omega
      clear hDl; have hT2 := hTW2 [] (by simp); clear hTW2; replace hT := hT.avoid (j := M2) gM2'; refine ⟨_, rfl, hK _ _ ?_⟩; clear hK K'; clear cb15 cb9_0; clear qb9 qb10 qb12 qb13 qX qY qZ qM qb15; replace hT := TW.at hT hb50; replace hRb := RdSt.at hRb hb50; replace hR1 := RdSt.at hR1 hb50; replace hL := LoopAt.at hL hb50; replace hO := Own.at hO hb50; revert HB; revert kb15; revert kM; revert kZ; revert kY; revert kX; revert kb13; revert kb12; revert kb10; revert kb9; refine uA hb50 ?_; clear hb50; intro kb9 qb9 kb10 qb10 kb12 qb12 kb13 qb13 kX qX kY qY kZ qZ kM qM kb15 qb15 HB; clear hRb; refine pl ?_; clear qM kM; clear hR1; clear sl15 sl16 sl50; refine lx [52,53] ?_; clear sl10 sl12 sl14; intro s51 sl10 sl12 sl14 sl52 sl53
      rw [show ((bn : Int) - (an : Int)) = ((bn - an : Nat) : Int) from (by omega)] at sl53; refine cal (trun_any [] p M2 [] 0 (bn - an) _ (by simpa using hT2) (by simp) hokp.out (by intro f hf; cases hf) (by decide) (by omega)) ?_; rintro e w52 ⟨rfl, hT9, hb53⟩; refine ⟨_, rfl, ?_⟩; clear qb9 qb10 qb12 qb13 qX qY qZ qb15; replace hT := TW.old hT hb53 (by simp); replace hL := LoopAt.oldB hL hb53 (by first | (simp; done) | (simp; omega)); replace hO := Own.oldB hO hb53 (fun g hg => by have n0 := (World.ownsRow.lt hO g hg).1; have nb15 := nhO_b15 g hg; have nM2 := nhO_M2 g hg; first | (simp; done) | (simp; omega)); revert HB; revert kb15; revert kZ; revert kY; revert kX; revert kb13; revert kb12; revert kb10; revert kb9; refine uO hb53 ?_; clear hb53; intro kb9 qb9 kb10 qb10 kb12 qb12 kb13 qb13 kX qX kY qY kZ qZ kb15 qb15 HB; obtain ⟨q, hq⟩ : ∃ q, after12 [] 0 (bn - an) p = q := ⟨_, rfl⟩; rw [hq] at hT9; have hokq := hid (show OkI q by rw [← hq]; exact after_ok (fs := []) (by intro f hf; cases hf) hokp.out); have Hq := hid hq; clear hq hT2; obtain ⟨A2, bm2, km2, gm2, kM2', hR2, -, -, -, -, -, -, -⟩ := hT9; have hTc := hT; obtain ⟨A3, bm3, km3, gm3, kM', hR3, -, -, -, -, -, -, -⟩ := hTc; have kM2 := kM2'; clear kM2'; have qM2 := kM2.1; have kM := kM'
      clear kM'; have qM := kM.1; refine pl ?_; clear sl52 sl53; refine lx [17] ?_; clear sl10 sl12 sl14; intro s54 sl10 sl12 sl14 sl17; refine nli ?_
      have cb9_0 := kb9.cell 0 rfl; have cb10_0 := kb10.cell 0 rfl; have cb12_0 := kb12.cell 0 rfl; have cb13_0 := kb13.cell 0 rfl; have cX_0 := kX.cell 0 rfl; have cY_0 := kY.cell 0 rfl; have cZ_0 := kZ.cell 0 rfl; have cb15 := clx kb15; have cM2 := clx kM2; have cM := clx kM; refine rgI (ρ := some (D + 1)) 8 [?_,?_,?_,?_,?_,?_,?_,?_] ?walk40 ?dep40
      case walk40 =>
       iterate 8 refine rq ?_
       refine walkR_nil (fun X hX w55 hwz hcz => ?_); clear hX hcz
       (try clear X)
       skip; have hb56 := hwz.unDrew; clear hwz; clear cM cM2 cX_0 cY_0 cZ_0 cb10_0 cb12_0 cb13_0 cb15 cb9_0; clear qb9 qb10 qb12 qb13 qX qY qZ qb15 qM2 qM; replace hT := TW.old hT hb56 (by simp); replace hL := LoopAt.oldB hL hb56 (by first | (simp; done) | (simp; omega)); replace hR2 := RdSt.old hR2 hb56; replace hR3 := RdSt.old hR3 hb56; replace hO := Own.oldB hO hb56 (fun g hg => by have n0 := (World.ownsRow.lt hO g hg).1; have nb15 := nhO_b15 g hg; have nM2 := nhO_M2 g hg; first | (simp; done) | (simp; omega)); revert HB; revert kM; revert kM2; revert kb15; revert kZ; revert kY; revert kX; revert kb13; revert kb12; revert kb10; revert kb9; refine uO hb56 ?_; clear hb56; intro kb9 qb9 kb10 qb10 kb12 qb12 kb13 qb13 kX qX kY qY kZ qZ kb15 qb15 kM2 qM2 kM qM HB; refine cal (tequal_any q A2 c A3 _ hR2 hR3 hokq.out.len hokc.out.len) ?_; rintro e w57 ⟨rfl, hb58⟩; refine ⟨_, rfl, ?_⟩; clear qb9 qb10 qb12 qb13 qX qY qZ qb15 qM2 qM; replace hT := TW.at hT hb58; replace hL := LoopAt.at hL hb58; replace hR2 := RdSt.at hR2 hb58; replace hR3 := RdSt.at hR3 hb58; replace hO := Own.at hO hb58; revert HB; revert kM; revert kM2; revert kb15; revert kZ; revert kY; revert kX; revert kb13; revert kb12; revert kb10; revert kb9; refine uA hb58 ?_; clear hb58; intro kb9 qb9 kb10 qb10 kb12 qb12 kb13 qb13 kX qX kY qY kZ qZ kb15 qb15 kM2 qM2 kM qM HB; refine pl ?_; clear sl12 sl17; refine lx [64] ?_; clear sl10 sl14; intro s59 sl10 sl14 sl64; refine nli ?_
       refine cond_EI sl64 (by decide) ?_ ?_ <;> (clear sl64; intro h64 sl64)
       ·skip
        have Hdf2 := hid (show difI s fs ev mn i = true by rw [Hdf.out, Hq.out]; have h := h64; simp at h; simp; exact fun e => h e.symm); replace hT := hT.less (fun k hk => List.mem_cons_of_mem _ hk); have hcl9 := cnt_le (every := ev) (most := mn) hev1; have hln := halfU_len (s := s) (fs := fs) (every := ev) (most := mn) (odd := odd) i; clear hR2 hR3
        refine nxi ?_
        refine region_FI (ρ := some (D + 1)) rfl ?_; have cb10_0 := kb10.cell 0 rfl; refine P2 ?_; refine pas (fun w60 B67 hB kb67' hb61 => ?_); have gb67 := HB.out.gB hB; have ob9_b67 := oB qb9 hB; have ob10_b67 := oB qb10 hB; have ob12_b67 := oB qb12 hB; have ob13_b67 := oB qb13 hB; have oX_b67 := oB qX hB; have oY_b67 := oB qY hB; have oZ_b67 := oB qZ hB; have ob15_b67 := oB qb15 hB; have oM2_b67 := oB qM2 hB; have oM_b67 := oB qM hB
        have nhO_b67 : ∀ g, v10.ownBlock = some g → g < B67 := fun g hg => by have := (World.ownsRow.lt hO g hg).2; omega
        have eb67 := eB hB; clear hB; clear cb10_0; clear qb9 qb10 qb12 qb13 qX qY qZ qb15 qM2 qM; replace hT := TW.at hT hb61; replace hL := LoopAt.at hL hb61; replace hO := Own.at hO hb61; revert HB; revert kM; revert kM2; revert kb15; revert kZ; revert kY; revert kX; revert kb13; revert kb12; revert kb10; revert kb9; refine uA hb61 ?_; clear hb61; intro kb9 qb9 kb10 qb10 kb12 qb12 kb13 qb13 kX qX kY qY kZ qZ kb15 qb15 kM2 qM2 kM qM HB; have kb67 := kb67'; clear kb67'; have qb67 := kb67.1
        have ab9 : v10.ownBlock ≠ some B9 := fun e => by have n0 := (World.ownsRow.lt hO B9 e).1; omega
        have ab10 : v10.ownBlock ≠ some B10 := fun e => by have n0 := (World.ownsRow.lt hO B10 e).1; omega
        have ab12 : v10.ownBlock ≠ some B12 := fun e => by have n0 := (World.ownsRow.lt hO B12 e).1; omega
        have ab13 : v10.ownBlock ≠ some B13 := fun e => by have n0 := (World.ownsRow.lt hO B13 e).1; omega
        have aX : v10.ownBlock ≠ some X := fun e => by have n0 := (World.ownsRow.lt hO X e).1; omega
        have aY : v10.ownBlock ≠ some Y := fun e => by have n0 := (World.ownsRow.lt hO Y e).1; omega
        have aZ : v10.ownBlock ≠ some Z := fun e => by have n0 := (World.ownsRow.lt hO Z e).1; omega
        have ab15 : v10.ownBlock ≠ some B15 := fun e => by have n0 := (World.ownsRow.lt hO B15 e).1; have n9 := nhO_b15 B15 e; omega
        have aM2 : v10.ownBlock ≠ some M2 := fun e => by have n0 := (World.ownsRow.lt hO M2 e).1; have n9 := nhO_M2 M2 e; omega
        have aM : v10.ownBlock ≠ some M := fun e => by have n0 := (World.ownsRow.lt hO M e).1; omega
        have ab67 : v10.ownBlock ≠ some B67 := fun e => by have n0 := (World.ownsRow.lt hO B67 e).1; have n9 := nhO_b67 B67 e; omega
        have hzz := HB.out.size; refine listF_step rfl (fun K' hK => ?_); refine opF_app (d := 68) rfl (by decide) (.tmp 65) (.tmp 67) _ rfl 3 i0 _ 8 Tryz.underlying22 hi0 hz0 hy0 hx0 rfl (by decide) (fun _ => rfl) int_one (D + 2) v10 (halfU s fs ev mn odd i) [(i : Int)] (some ⟨B67, 0, none⟩) 1 (by go_simp) (by go_simp) hO (Cells.rd (f := int1) (m := 1) (l := [(i : Int)]) (fun _ => rfl) kb67) (by unfold maxLen; simp; omega) (by simp; omega) (by omega) (fun v68 w62 hO' hG hV => hK _ _ ?_); clear hK K' hzz; clear qb9 qb10 qb12 qb13 qX qY qZ qb15 qM2 qM qb67; replace kb9 := kb9.grown hG ab9; clear ab9; replace kb10 := kb10.grown hG ab10; clear ab10; replace kb12 := kb12.grown hG ab12; clear ab12; replace kb13 := kb13.grown hG ab13; clear ab13; replace kX := kX.grown hG aX; clear aX; replace kY := kY.grown hG aY; clear aY; replace kZ := kZ.grown hG aZ; clear aZ; replace kb15 := kb15.grown hG ab15; clear ab15; replace kM2 := kM2.grown hG aM2; clear aM2
        replace kM := kM.grown hG aM; clear aM; replace kb67 := kb67.grown hG ab67; clear ab67; replace hT := TW.grown hT hG hV; replace hL := LoopAt.oldB hL (oldB_grown (Bs := v10.ownBlock.toList) hG (fun g hg => by simp [hg])) (fun b hb => by have := (World.ownsRow.lt hO b (by simpa using hb)).1; omega); replace HB := hid (HB.out.grown hG (fun k hk => .inl (by have := (World.ownsRow.lt hO k hk).1; omega))); clear hO; have hO := hO'; clear hO' hG hV; clear nhO_b15 nhO_M2 nhO_b67; have qb9 := kb9.1; have qb10 := kb10.1; have qb12 := kb12.1; have qb13 := kb13.1; have qX := kX.1; have qY := kY.1; have qZ := kZ.1; have qb15 := kb15.1; have qM2 := kM2.1; have qM := kM.1; have qb67 := kb67.1; obtain ⟨a68, c68, rfl, hr68, hn68⟩ := Own.slice (f := int1) (m := 1) (fun _ => rfl) hO; clear hr68 hn68; have cb10_0 := kb10.cell 0 rfl; have zb10 := kb10.2.2; refine pl ?_; refine sto kb10 ?_; clear kb10 cb10_0 zb10; intro w63 kb10 hb64; clear qb9 qb10 qb12 qb13 qX qY qZ qb15 qM2 qM qb67; replace hT := TW.old hT hb64 (by simp); replace hL := LoopAt.oldB hL hb64 (by first | (simp; done) | (simp; omega)); replace hO := Own.oldB hO hb64 (fun g hg => by have n0 := (World.ownsRow.lt hO g hg).1; first | (simp; done) | (simp; omega)); revert HB; revert kb67; revert kM; revert kM2; revert kb15; revert kZ; revert kY; revert kX; revert kb13; revert kb12; revert kb9; refine uO hb64 ?_; clear hb64; intro kb9 qb9 kb12 qb12 kb13 qb13 kX qX kY qY kZ qZ kb15 qb15 kM2 qM2 kM qM kb67 qb67 HB; have qb10 := kb10.1; clear sl10 sl14 sl64; refine lx [] ?_; intro s65; refine nli ?_
        have hpl2 : (pre ++ [(i, A')]).length = i + 1 := by simp [← Hpl.out]
        refine ⟨.inl ⟨rfl, ?_⟩, hL⟩; rw [hpl2, Hbn.out, Hc.out]; exact ⟨(Value.slice a68 (halfU s fs ev mn odd i ++ [(i : Int)]).length c68), ⟨HB.out.toBelow, kb9, (Cells.conv kb10 (by simp)), kb12, by rw [Hbn.out]; exact kb13, kX, kY, kZ, by rw [halfU_yes H50.out Hdf2.out]; exact hO⟩, hT⟩
       ·skip
        have Hdf2 := hid (show difI s fs ev mn i = false by rw [Hdf.out, Hq.out]; have h := h64; simp at h; simp [h])
        refine nxi ?_
        have hpl2 : (pre ++ [(i, A')]).length = i + 1 := by simp [← Hpl.out]
        refine ⟨.inl ⟨rfl, ?_⟩, hL⟩; rw [hpl2, Hbn.out, Hc.out]; exact ⟨v10, ⟨HB.out.toBelow, kb9, kb10, kb12, by rw [Hbn.out]; exact kb13, kX, kY, kZ, by rw [halfU_no (.inr Hdf2.out)]; exact hO⟩, hT.less (fun k hk => List.mem_cons_of_mem _ hk)⟩
      case dep40 => exact dA
    case dep39 => exact dA
   case hdone =>
    clear kb5 kb9 kb10 kb12 kb13 kX kY kZ qb5 qb9 qb10 qb12 qb13 qX qY qZ hT HB; rintro xs Wx ⟨v10, h1, -⟩ hFin hDm; rw [hDD] at hDm ⊢
    simp only [mkA_tmps, mkA_defers, mkA_eta]
    obtain ⟨hbW, k9', k10', k12', k13', kX', kY', kZ', hO⟩ := h1; clear k9' k12' k13' kX' kY' kZ'; have HB := hid (OldB.nil (Bs := []) hbW); clear hbW; rw [hFin] at hO; obtain ⟨ra, rc, rfl, -, -⟩ := Own.slice (f := int1) (m := 1) (fun _ => rfl) hO; have kb10 := k10'; clear k10'; have qb10 := kb10.1
    refine nr ?_; intros; have cb10_0 := kb10.cell 0 rfl; refine pl ?_; have zb10 := kb10.2.2; refine pl ?_; refine sto kb10 ?_; clear kb10 cb10_0 zb10; intro w66 kb10 hb67; clear qb10; replace hDm := Dfr.oldB hDm hb67 (by first | (simp; done) | (simp; omega)); replace hO := Own.oldB hO hb67 (fun g hg => by have n0 := (World.ownsRow.lt hO g hg).1; first | (simp; done) | (simp; omega)); replace HB := mO HB hb67; clear hb67; have qb10 := kb10.1; refine pl ?_; clear sl9 sl12 sl13 sl33; refine lx [11] ?_; clear sl10; intro s68 sl10 sl11; refine ln ?_; intros
    (try refine noGoto_r ?_)
    obtain ⟨ra2, rc2, hv9, hr9, hn9⟩ := Own.slice (f := int1) (m := 1) (fun _ => rfl) hO
    cases hv9
    have kRb10 := kb10.put (o := .deferred none) (show B10 ≠ D by omega); have cRb10_0 := kRb10.cell 0 rfl; refine retMark_F _ hDm (res_ct Tryz.results30 ((getD_F (by decide)).trans sl10) (load_t22 cRb10_0) ((getD_F (by decide)).trans sl11)) ?_; refine ⟨ra, rc, by rw [Hl9.out]; rfl, ?_, fun b hb => by have := hn9 b hb; omega, bel_put HB.out.toBelow (by omega)⟩; rw [Hl9.out]; exact Rd.put hr9 (fun b hb => by have := hn9 b hb; omega)
   case hleave =>
    rintro Wx h _; exact h.elim
 ·skip
  have e9 := Hhr.out.symm.trans (halfR_bad HA.out he)
  obtain ⟨rfl, rfl⟩ : l = [] ∧ er = ea := by simpa using e9
  refine region_F ?_; refine P2 ?_; refine lx [23] ?_; clear sl1 sl2 sl3 sl5 sl9 sl10 sl11; intro s69 sl1 sl2 sl3 sl5 sl9 sl10 sl11 sl23; refine ln ?_; intros
  refine cond_t ?_
  refine nr ?_; intros; refine pl ?_; have cb10_0 := kb10.cell 0 rfl; have zb10 := kb10.2.2; refine pl ?_; refine sto kb10 ?_; clear kb10 cb10_0 zb10; intro w70 kb10 hb71; clear qb5 qb9 qb10; revert HB; revert kb9; revert kb5; refine uO hb71 ?_; clear hb71; intro kb5 qb5 kb9 qb9 HB; have qb10 := kb10.1; refine pl ?_; clear sl11 sl1 sl2 sl3 sl5 sl9 sl23; refine lx [11] ?_; clear sl10; intro s72 sl10 sl11; refine ln ?_; intros
  (try refine noGoto_r ?_)
  have cb10_0 := kb10.cell 0 rfl; refine XW34c ?_; exact ⟨none, 0, rfl, .inl rfl, (fun b hb => by cases hb), HB.out.toBelow⟩

end Go.Proofs.YtleknidlgmmgbaaGreat
