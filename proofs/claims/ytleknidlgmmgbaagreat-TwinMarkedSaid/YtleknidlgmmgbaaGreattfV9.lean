/- TwinMarked. -/
import Derived.Test.YtleknidlgmmgbaaGreattfW51
import Derived.Test.YtleknidlgmmgbaaGreattfR7
import Derived.Test.YtleknidlgmmgbaaGreattfT4
import Derived.Test.YtleknidlgmmgbaaGreattfW57
import Derived.Test.YtleknidlgmmgbaaGreattfCZ
set_option linter.all false
namespace Go.Proofs.YtleknidlgmmgbaaGreat

open Go.RowKit


theorem least_ex9 {p : Nat → Prop} (h : ∃ k, p k) : ∃ k, p k ∧ ∀ j, j < k → ¬ p j := by
  obtain ⟨k, hk⟩ := h
  induction k using Nat.strongRecOn with
  | ind k ih =>
    by_cases hq : ∃ j, j < k ∧ p j
    · obtain ⟨j, hj, hp⟩ := hq; exact ih j hj hp
    · exact ⟨k, hk, fun j hj hp => hq ⟨j, hj, hp⟩⟩

theorem logR_err {s : St4} {fs : List Flt} {ev most e : Int} {l : List Mrk} (h : logR s fs ev most = (l, e)) (he : ¬ e = 0) : l = [] := by
  unfold logR at h
  by_cases h1 : askErr12 s fs most ≠ 0
  · rw [if_pos h1] at h; exact (congrArg Prod.fst h).symm
  · rw [if_neg h1] at h
    by_cases h2 : inI ev 1 1000 = false
    · rw [if_pos h2] at h; exact (congrArg Prod.fst h).symm
    · rw [if_neg h2] at h; exact absurd (congrArg Prod.snd h).symm he
theorem logR_fine {s : St4} {fs : List Flt} {ev most : Int} {l : List Mrk} (h : logR s fs ev most = (l, 0)) : askErr12 s fs most = 0 ∧ (1 ≤ ev ∧ ev ≤ 1000) ∧ l = logL s fs ev.toNat most.toNat := by
  unfold logR at h
  by_cases h1 : askErr12 s fs most ≠ 0
  · rw [if_pos h1] at h; exact absurd (congrArg Prod.snd h) h1
  · rw [if_neg h1] at h
    by_cases h2 : inI ev 1 1000 = false
    · rw [if_pos h2] at h; exact absurd (congrArg Prod.snd h) (by simp)
    · rw [if_neg h2] at h
      refine ⟨Decidable.not_not.1 h1, (inI_iff _ _ _).1 (by simpa using h2), (congrArg Prod.fst h).symm⟩
theorem rd_lt {w : World} {a : Option Addr} {l : List Mrk} (h : RdMk w a l) (hl : l ≠ []) : ∀ b, a = some b → b.block < w.heap.size := fun b hb => by
  obtain ⟨b', o', ha, hlt, _⟩ := RdMk.ne h (List.length_pos_iff.2 hl)
  cases hb.symm.trans ha; exact hlt
theorem logL_len (s : St4) (fs : List Flt) (ev mn : Nat) : (logL s fs ev mn).length = cntN ev mn := by simp [logL]
theorem logL_at {s : St4} {fs : List Flt} {ev mn i : Nat} (h : i < (logL s fs ev mn).length) : (logL s fs ev mn)[i] = markI s fs ev mn i := by simp [logL]
theorem cnt_quo {ev mn : Nat} (he : 1 ≤ ev) : ((mn : Int) + (ev : Int) - 1).tdiv (ev : Int) = (cntN ev mn : Int) := by
  have : ((mn : Int) + (ev : Int) - 1) = ((mn + ev - 1 : Nat) : Int) := by omega
  rw [this, ← Int.ofNat_tdiv]; rfl
theorem difR_at (a b : List Mrk) (h : a.length = b.length) : (∃ (k : Nat) (hk : k < a.length), a[k] ≠ b[k]'(h ▸ hk) ∧ difR a b = ((k : Int), 0)) ∨ difR a b = (-1, 0) := by
  by_cases he : a = b
  · exact .inr (dif_none he)
  · left
    have hex : ∃ k, ∃ hk : k < a.length, a[k] ≠ b[k]'(h ▸ hk) := by
      apply Classical.byContradiction
      intro hn
      apply he
      refine List.ext_getElem h (fun k h1 h2 => ?_)
      apply Classical.byContradiction
      intro hk; exact hn ⟨k, h1, hk⟩
    obtain ⟨k, ⟨hk, hne⟩, hmin⟩ := least_ex9 hex; refine ⟨k, hk, hne, dif_found h hk ?_ hne⟩; refine List.ext_getElem (by simp [h]) (fun j h1 h2 => ?_)
    have hj : j < k := by simp at h1; omega
    rw [List.getElem_take, List.getElem_take]
    apply Classical.byContradiction
    intro hq; exact hmin j hj ⟨by omega, hq⟩
theorem tSeal_v (s : St4) (A : SA) (n er : Int) (w : World) (hR : RdSt w s A) (hL : LenI s) (h : sealR s = (n, er)) :
    Calls Tryz.prog 36 #[.agg #[.slice A.sa s.store.length A.sc, .slice A.ta s.tape.length A.tc, .int .i64 s.taken, .slice A.pa s.printed.length A.pc, .int .i64 s.time, .int .i64 s.pc, .int .i64 s.done, .int .i64 s.why]] w (fun e w' => e = .returned (.tuple #[.int .i64 n, .int .i64 er]) ∧ Below w.heap.size w w') := by
  have := tSeal_any s A w hR hL; rw [h] at this; exact this
theorem tDiffer_v (al : Option Addr) (cl : Nat) (l : List Mrk) (am : Option Addr) (cm : Nat) (m : List Mrk) (k er : Int) (w : World) (hRl : RdMk w al l) (hRm : RdMk w am m) (hll : l.length ≤ 9223372036854775807) (hlm : m.length ≤ 9223372036854775807) (h : difR l m = (k, er)) :
    Calls Tryz.prog 34 #[.slice al l.length cl, .slice am m.length cm] w (fun e w' => e = .returned (.tuple #[.int .i64 k, .int .i64 er]) ∧ Below w.heap.size w w') := by
  have := tDiffer_any al cl l am cm m w hRl hRm hll hlm; rw [h] at this; exact this

theorem XV9b {A : Prop} (e : A := by exact (fun hl b hb hm => by have n1 := H9.out hl b hb; have n2 := HL1.out.size; simp at hm <;> omega)) : A := e
theorem XV9c {A B1 : Prop} (hX1 : B1) (e : B1 → A := by exact ret_F _ (res_t Tryz.results15 ((getD_F (by decide)).trans sl6))) : A := e hX1
set_option maxRecDepth 100000 in
set_option maxHeartbeats 32000000 in
theorem marked_walk (s : St4) (A : SA) (af : Option Addr) (cf : Nat) (fs : List Flt) (y0 y1 : Int) (w : World) (hR : RdSt w s A) (hL : LenI s) (hF : RdFl w af fs) (hlf : fs.length ≤ 9223372036854775807) (hy0 : -9223372036854775808 ≤ y0 ∧ y0 ≤ 9223372036854775807) (hy1 : -9223372036854775808 ≤ y1 ∧ y1 ≤ 9223372036854775807) :
    Calls Tryz.prog 15 #[.agg #[.slice A.sa s.store.length A.sc, .slice A.ta s.tape.length A.tc, .int .i64 s.taken, .slice A.pa s.printed.length A.pc, .int .i64 s.time, .int .i64 s.pc, .int .i64 s.done, .int .i64 s.why], .slice af fs.length cf, .agg #[.int .i64 y0, .int .i64 y1]] w (fun e w' => e = .returned (.bool true) ∧ Below w.heap.size w w') := by
 have HR := hid hR; have HL := hid hL; have HF := hid hF; clear hR hL hF; obtain ⟨⟨l, e1⟩, hl⟩ : ∃ z, logR s fs y0 y1 = z := ⟨_, rfl⟩; have Hl := hid hl; clear hl
 refine enter_F Tryz.func15 rfl Tryz.ntmps15 (by simp) ?_
 intro s0 hs; have sl0 : s0 0 = .agg #[.slice A.sa s.store.length A.sc, .slice A.ta s.tape.length A.tc, .int .i64 s.taken, .slice A.pa s.printed.length A.pc, .int .i64 s.time, .int .i64 s.pc, .int .i64 s.done, .int .i64 s.why] := hs 0 (by simp); have sl1 : s0 1 = .slice af fs.length cf := hs 1 (by simp); have sl2 : s0 2 = .agg #[.int .i64 y0, .int .i64 y1] := hs 2 (by simp); clear hs; have HB := hid (OldB.refl [] w)
 refine nr ?_; intros; refine pa (fun w1 B3 hB kb3 hb2 => ?_); have gb3 := HB.out.gB hB; have eb3 := eB hB; clear hB; replace HB := bE HB hb2; clear hb2; have qb3 := kb3.1; refine pa (fun w3 B5 hB kb5 hb4 => ?_); have gb5 := HB.out.gB hB; have ob3_b5 := oB qb3 hB; have eb5 := eB hB; clear hB; clear qb3; revert HB; revert kb3; refine uA hb4 ?_; clear hb4; intro kb3 qb3 HB; have qb5 := kb5.1; refine pl ?_; clear sl0 sl2; refine lx [3,5] ?_; clear sl1; intro s5 sl1 sl3 sl5; refine ln ?_; intros
 have cb3 := clx kb3; have cb5 := clx kb5; refine regionQ_F (Below w3.heap.size w3) (by kernel_rfl) (by kernel_rfl) (Below.refl _ _).drew ?_
 iterate 6 refine lq ?_
 refine listQ_nil ?_; intro w6 hb7; clear cb3 cb5; clear qb3 qb5; revert HB; revert kb5; revert kb3; refine uA hb7 ?_; clear hb7; intro kb3 qb3 kb5 qb5 HB
 refine zx ?_; intros
 refine wp_abs (fun s8 z' => ?_); replace sl1 := slg z' sl1; replace sl3 := slg z' sl3; have sl7 := gu 7 z'; have sl8 := gu 8 z'; clear z' sl5; refine region_F ?_; have cb3 := clx kb3
 refine P4 ?_
 refine cal (tlog_v s A af cf fs y0 y1 e1 l _ (HR.out.old HB.out) HL.out hlf (Rd.oldB HF.out HB.out (by simp)) Hl.out) ?_; rintro e w9 ⟨a9, c9, rfl, hr9, -, hb10⟩; have H9 := hid (rd_lt hr9); refine ⟨_, rfl, ?_⟩; clear cb3; clear qb3 qb5; revert HB; revert kb5; revert kb3; refine uA hb10 ?_; clear hb10; intro kb3 qb3 kb5 qb5 HB; have HL1 := hid (OldB.refl [] w9)
 refine P5 ?_
 refine lx [9,10] ?_; clear sl1 sl3 sl7 sl8; intro s11 sl1 sl3 sl7 sl8 sl9 sl10; refine lr ?_; intros; refine P2 ?_; clear sl10; refine lx [35] ?_; clear sl1 sl3 sl7 sl8 sl9; intro s12 sl1 sl3 sl7 sl8 sl9 sl35; refine ln ?_; intros
 refine cond_E sl35 (by decide) ?_ ?_ <;> (clear sl35; intro h35 sl35)
 ·skip
  have h9 : ¬ e1 = 0 := by simpa using h35
  obtain rfl := logR_err Hl.out h9
  refine nr ?_; intros
  refine P4 ?_
  refine listF_yes rfl rfl (by decide) ?_ (fun K' hK => ?_); (focus (go_simp; done)); unfold opF; go_simp; refine (awake_any _).mono ?_; rintro e w13 ⟨rfl, hb14⟩; refine ⟨_, rfl, hK _ _ ?_⟩; clear hK K'; clear qb3 qb5; replace hr9 := Rd.at hr9 hb14; revert HB; revert HL1; revert kb5; revert kb3; refine uA hb14 ?_; clear hb14; intro kb3 qb3 kb5 qb5 HL1 HB; refine P2 ?_; clear sl1 sl3 sl7 sl8 sl9 sl35; refine lx [6] ?_; intro s15 sl6; refine ln ?_; intros
  refine XV9c ?_; exact ⟨rfl, HB.out.toBelow⟩
 ·skip
  have h9 : e1 = 0 := by simpa using h35
  subst h9; obtain ⟨hak, hev, hll⟩ := logR_fine Hl.out; obtain ⟨hOk, hl10, hfo, hm0, hm1⟩ := ask12_zero.1 hak; obtain ⟨mn, rfl⟩ : ∃ k : Nat, y1 = k := ⟨y1.toNat, by omega⟩; obtain ⟨ev, rfl⟩ : ∃ k : Nat, y0 = k := ⟨y0.toNat, by omega⟩; rw [Int.toNat_natCast, Int.toNat_natCast] at hll; have Hll := hid hll; have Hak := hid hak; have HOk := hid hOk; have Hfo := hid hfo
  have hev1 : 1 ≤ ev ∧ ev ≤ 1000 := by omega
  have Hln := hid (show l.length = cntN ev mn by rw [hll]; exact logL_len _ _ _ _); have hcl := cnt_le (every := ev) (most := mn) hev1.1
  have hqu : ((mn : Int) + (ev : Int) - 1).tdiv (ev : Int) = (l.length : Int) := by rw [Hln.out]; exact cnt_quo hev1.1
  have hlm : l.length ≤ 1000 := by have := Hln.out; omega
  have wq : IntKind.i64.wrap (l.length : Int) = (l.length : Int) := IntWalk.i64_in _ (by omega); have wa : IntKind.i64.wrap ((mn : Int) + (ev : Int)) = (mn : Int) + (ev : Int) := IntWalk.i64_in _ (by omega); have wb : IntKind.i64.wrap ((mn : Int) + (ev : Int) - 1) = (mn : Int) + (ev : Int) - 1 := IntWalk.i64_in _ (by omega)
  have hez : ¬ (ev : Int) = 0 := by omega
  have hez2 : ¬ ev = 0 := by omega
  have hez1 : ¬ (ev : Int) < 1 := by omega
  obtain ⟨L2, hL2⟩ : ∃ z, logL s [] ev mn = z := ⟨_, rfl⟩; have Hl2 := hid (show logR s [] (ev : Int) (mn : Int) = (L2, 0) by rw [logR_ok (ask12_zero.2 ⟨hOk, by simp, (fun _ h => by cases h), by omega, by omega⟩) ((inI_iff _ _ _).2 (by omega)), hL2]); have Hln2 := hid (show L2.length = l.length by rw [← hL2, hll, logL_len, logL_len]); have Hd := hid (difR_at l L2 Hln2.out.symm); obtain ⟨⟨k9, z9⟩, hk9⟩ : ∃ z, difR l L2 = z := ⟨_, rfl⟩
  obtain rfl : z9 = 0 := by rcases Hd.out with ⟨k, _, _, h⟩ | h <;> rw [hk9] at h <;> exact congrArg Prod.snd h
  have Hk9 := hid hk9
  have hkb : -1 ≤ k9 ∧ k9 < l.length := by rcases Hd.out with ⟨k, h1, _, h⟩ | h <;> rw [hk9] at h <;> have h := congrArg Prod.fst h <;> simp at h <;> omega
  have hkb1 : ¬ k9 < -1 := by omega
  have hkb2 : ¬ (l.length : Int) ≤ k9 := by omega
  have HL2e := hid hL2; clear hak hOk hfo hll hL2 hk9 hev
  refine nr ?_; intros
  refine P3 ?_
  iterate 9 refine py ?_
  refine pl ?_; clear sl35; refine lx [54] ?_; clear sl1 sl3 sl7 sl8 sl9; intro s16 sl1 sl3 sl7 sl8 sl9 sl54; refine ln ?_; intros
  refine cond_f ?_
  refine nr ?_; intros; refine pl ?_; clear sl54; refine lx [11] ?_; clear sl1 sl3 sl7 sl8 sl9; intro s17 sl1 sl3 sl7 sl8 sl9 sl11; refine ln ?_; intros
  have hc0_1 := hid sl1; have hc0_3 := hid sl3; have hc0_7 := hid sl7; have hc0_8 := hid sl8; have hc0_9 := hid sl9; refine loop_F (n := 155) (fun kJ sJ wJ => ∃ (i : Nat), kJ = l.length - i ∧ sJ 11 = .int .i64 (i : Int) ∧ sJ 1 = s17 1 ∧ sJ 3 = s17 3 ∧ sJ 7 = s17 7 ∧ sJ 8 = s17 8 ∧ sJ 9 = s17 9 ∧ OldB [] w9 wJ ∧ i ≤ l.length) ⟨0, rfl, (by first | exact sl11 | (rw [sl11]; go_num) | (rw [sl11]; rfl)), rfl, rfl, rfl, rfl, rfl, OldB.refl _ _, Nat.zero_le _⟩ ?_; clear sl11; rintro kJ s18 w19 ⟨i, rfl, sl11, e1, e3, e7, e8, e9, hb20, hil⟩; replace sl1 := e1.trans sl1; clear e1; replace sl3 := e3.trans sl3; clear e3; replace sl7 := e7.trans sl7; clear e7; replace sl8 := e8.trans sl8; clear e8; replace sl9 := e9.trans sl9; clear e9; have hoJ := hb20; clear qb3 qb5; replace hr9 := Rd.oldN hr9 hb20 XV9b; revert HB; revert HL1; revert kb5; revert kb3; refine uO hb20 ?_; clear hb20; intro kb3 qb3 kb5 qb5 HL1 HB; have HoJ := hid hoJ; clear hoJ; have HL21 := HoJ; clear HoJ
  refine nr ?_; intros
  refine P4 ?_
  refine lx [58] ?_; clear sl1 sl3 sl7 sl8 sl9 sl11; intro s22 sl1 sl3 sl7 sl8 sl9 sl11 sl58; refine ln ?_; intros
  refine cond_E sl58 (by decide) ?_ ?_ <;> (clear sl58; intro h58 sl58)
  ·skip
   have hi : i < l.length := by simpa using h58
   have hii : (i : Int) < l.length := by omega
   have hic : i < cntN ev mn := by have := Hln.out; omega
   obtain ⟨g1, g2, g3⟩ := end_gt hev1.1 hic; obtain ⟨en, hen⟩ : ∃ z, endN ev mn i = z := ⟨_, rfl⟩; obtain ⟨pp, hpp⟩ : ∃ z, (i + 1) * ev = z := ⟨_, rfl⟩
   have hpb : pp ≤ 2000 := by rw [← hpp, Nat.succ_mul]; omega
   have he9 : en = min mn pp := by rw [← hen, ← hpp]; rfl
   have wi : IntKind.i64.wrap ((i : Int) + 1) = (i : Int) + 1 := IntWalk.i64_in _ (by omega)
   have wp : IntKind.i64.wrap (((i : Int) + 1) * (ev : Int)) = (pp : Int) := by rw [show ((i : Int) + 1) * (ev : Int) = (pp : Int) by rw [← hpp]; push_cast; rfl]; exact IntWalk.i64_in _ (by omega)
   have m1 : (if (pp : Int) < (mn : Int) then (pp : Int) else (mn : Int)) = (en : Int) := by split <;> omega
   have m2 : (if pp < mn then (pp : Int) else (mn : Int)) = (en : Int) := by split <;> omega
   have m3 : min (mn : Int) (pp : Int) = (en : Int) := by omega
   have Hen := hid (show askErr12 s fs (en : Int) = 0 from ask12_zero.2 ⟨HOk.out, hl10, Hfo.out, by omega, by omega⟩); obtain ⟨R, hRR⟩ : ∃ z, runR s fs (en : Int) = z := ⟨_, rfl⟩; have HRR := hid hRR; have HRn := hid (show run12 s fs en = R by rw [← hRR]; unfold runR; rw [if_pos Hen.out]; rfl); have HOr := hid (show OkI R by rw [← HRn.out]; exact after_ok Hfo.out HOk.out); have HLr := hid HOr.out.len; have HsR := hid (show sealR R = (sealI' R, 0) by unfold sealR; rw [if_pos (ok_iff.2 HOr.out)]); have Hx := hid (show l[i] = ⟨(en : Int), R.pc, sealI' R⟩ by simp only [Hll.out]; rw [logL_at]; unfold markI; rw [hen, HRn.out]); clear hen hpp g1 g2 g3 he9 hRR
   refine nr ?_; intros; have cb3 := clx kb3
   refine P8 ?_
   refine cal (tRun_v s A af cf fs (en : Int) 0 R _ (HR.out.old HB.out) HL.out hlf (Rd.oldB HF.out HB.out (by simp)) Hen.out HRR.out) ?_; rintro e w23 ⟨A1, rfl, hR_A1, hb24⟩; have Hf_A1 := hid (fun k (hk : w23.heap.size ≤ k) => RdSt.freeB (k := k) hR_A1 hk); refine ⟨_, rfl, ?_⟩; clear cb3; clear qb3 qb5; replace hr9 := Rd.at hr9 hb24; revert HB; revert HL21; revert HL1; revert kb5; revert kb3; refine uA hb24 ?_; clear hb24; intro kb3 qb3 kb5 qb5 HL1 HL21 HB
   refine P3 ?_
   refine pa (fun w25 B12 hB kb12 hb26 => ?_); have gb12 := HB.out.gB hB; have lHL1_b12 := HL1.out.gB hB; have lHL21_b12 := HL21.out.gB hB; have ob3_b12 := oB qb3 hB; have ob5_b12 := oB qb5 hB; have eb12 := eB hB; clear hB; clear qb3 qb5; replace hr9 := Rd.at hr9 hb26; replace hR_A1 := RdSt.at hR_A1 hb26; revert HB; revert HL21; revert HL1; revert kb5; revert kb3; refine uA hb26 ?_; clear hb26; intro kb3 qb3 kb5 qb5 HL1 HL21 HB; have qb12 := kb12.1; have cb12 := clx kb12; have zb12 := kb12.2.2; refine pl ?_; refine sto kb12 ?_; clear kb12 cb12 zb12; intro w27 kb12 hb28; clear qb3 qb5 qb12; replace hr9 := Rd.oldN hr9 hb28 XV9b; replace hR_A1 := (by first | exact RdSt.old hR_A1 hb28 | exact RdSt.oldK hR_A1 (Hf_A1.out _ (by omega)) hb28); revert HB; revert HL21; revert HL1; revert kb5; revert kb3; refine uO hb28 ?_; clear hb28; intro kb3 qb3 kb5 qb5 HL1 HL21 HB; have qb12 := kb12.1; refine pl ?_; clear sl58; refine lx [12,13] ?_; clear sl1 sl3 sl7 sl8 sl9 sl11; intro s29 sl1 sl3 sl7 sl8 sl9 sl11 sl12 sl13; refine lr ?_; intros; have cb12 := clx kb12; refine pl ?_; refine cal (tSeal_v R A1 (sealI' R) 0 _ hR_A1 HLr.out HsR.out) ?_; rintro e w30 ⟨rfl, hb31⟩; refine ⟨_, rfl, ?_⟩; clear cb12; clear qb3 qb5 qb12; replace hr9 := Rd.at hr9 hb31; replace hR_A1 := RdSt.at hR_A1 hb31; revert HB; revert HL21; revert HL1; revert kb12; revert kb5; revert kb3; refine uA hb31 ?_; clear hb31; intro kb3 qb3 kb5 qb5 kb12 qb12 HL1 HL21 HB
   refine P5 ?_
   refine lx [14,15] ?_; clear sl1 sl3 sl7 sl8 sl9 sl11 sl12 sl13; intro s32 sl1 sl3 sl7 sl8 sl9 sl11 sl12 sl13 sl14 sl15; refine ln ?_; intros
   obtain ⟨b7, o7, ha7, hb7, c0', c1', c2'⟩ := RdMk.ne hr9 hi; rw [Hx.out] at c0' c1' c2'; have Ha7 := hid ha7; rw [Ha7.out] at sl9; clear ha7; have cb3 := clx kb3; have cb5 := clx kb5; have cb12 := clx kb12; refine rgQ 23 [?_,?_,?_,?_,?_,?_,?_,?_,?_,?_,?_,?_,?_,?_,?_,?_,?_,?_,?_,?_,?_,?_,?_] ?walk28 ?dep28
   case walk28 =>
    iterate 3 refine rq ?_
    refine rqy ?_; refine rqy ?_; refine rq ?_; refine rq ?_
    iterate 15 refine rqy ?_
    refine rq ?_; refine walkR_nil (fun X hX w33 hwz hcz => ?_); clear hX hcz
    (try clear X)
    skip; have hb34 := hwz.unDrew; clear hwz; clear cb12 cb3 cb5; clear qb3 qb5 qb12; replace hr9 := Rd.oldN hr9 hb34 XV9b; replace hR_A1 := (by first | exact RdSt.old hR_A1 hb34 | exact RdSt.oldK hR_A1 (Hf_A1.out _ (by omega)) hb34); revert HB; revert HL21; revert HL1; revert kb12; revert kb5; revert kb3; refine uO hb34 ?_; clear hb34; intro kb3 qb3 kb5 qb5 kb12 qb12 HL1 HL21 HB; clear sl12 sl13 sl14 sl15; refine lx [81,82,85,86,87,88,89,90,91,92,93,94,95,96,97,98,99,100] ?_; clear sl1 sl3 sl7 sl8 sl9 sl11; intro s35 sl1 sl3 sl7 sl8 sl9 sl11 sl81 sl82 sl85 sl86 sl87 sl88 sl89 sl90 sl91 sl92 sl93 sl94 sl95 sl96 sl97 sl98 sl99 sl100; refine ln ?_; intros
    refine cond_f ?_
    refine nr ?_; intros
    refine P3 ?_
    clear sl11 sl100; refine lx [11] ?_; clear sl1 sl3 sl7 sl8 sl9 sl81 sl82 sl85 sl86 sl87 sl88 sl89 sl90 sl91 sl92 sl93 sl94 sl95 sl96 sl97 sl98 sl99; intro s36 sl1 sl3 sl7 sl8 sl9 sl81 sl82 sl85 sl86 sl87 sl88 sl89 sl90 sl91 sl92 sl93 sl94 sl95 sl96 sl97 sl98 sl99 sl11; refine ln ?_; intros
    rw [← Ha7.out] at sl9; refine ⟨_, _, rfl, ?_, i + 1, rfl, (rL sl11), (sl1.trans hc0_1.out.symm), (sl3.trans hc0_3.out.symm), (sl7.trans hc0_7.out.symm), (sl8.trans hc0_8.out.symm), (sl9.trans hc0_9.out.symm), HL21.out, by omega⟩
    omega
   case dep28 => exact dA
  ·skip
   refine zx ?_; intros
   clear HL21; clear hc0_1 hc0_3 hc0_7 hc0_8 hc0_9; refine region_F ?_; have cb3 := clx kb3
   refine P3 ?_
   refine cal (tlog_v s A none 0 [] (ev : Int) (mn : Int) 0 L2 _ (HR.out.old HB.out) HL.out (by simp) (.inl rfl) Hl2.out) ?_; rintro e w37 ⟨a16, c16, rfl, hr16, -, hb38⟩; have H16 := hid (rd_lt hr16); refine ⟨_, rfl, ?_⟩; clear cb3; clear qb3 qb5; replace hr9 := Rd.at hr9 hb38; revert HB; revert HL1; revert kb5; revert kb3; refine uA hb38 ?_; clear hb38; intro kb3 qb3 kb5 qb5 HL1 HB; have HL2 := hid (OldB.refl [] w37)
   refine P5 ?_
   clear sl7 sl11 sl58; refine lx [16,17] ?_; clear sl1 sl3 sl8 sl9; intro s39 sl1 sl3 sl8 sl9 sl16 sl17; refine lr ?_; intros; refine P2 ?_; refine cal (tDiffer_v a9 c9 l a16 c16 L2 k9 0 _ hr9 hr16 (by have := Hln.out; omega) (by have := Hln2.out; have := Hln.out; omega) Hk9.out) ?_; rintro e w40 ⟨rfl, hb41⟩; refine ⟨_, rfl, ?_⟩; clear qb3 qb5; replace hr9 := Rd.at hr9 hb41; replace hr16 := Rd.at hr16 hb41; revert HB; revert HL2; revert HL1; revert kb5; revert kb3; refine uA hb41 ?_; clear hb41; intro kb3 qb3 kb5 qb5 HL1 HL2 HB
   refine P5 ?_
   clear sl16; refine lx [18,19] ?_; clear sl1 sl3 sl8 sl9 sl17; intro s42 sl1 sl3 sl8 sl9 sl17 sl18 sl19; refine lr ?_; intros
   refine P3 ?_
   refine py ?_; refine py ?_; refine P2 ?_; refine py ?_; refine py ?_; refine P2 ?_
   iterate 4 refine py ?_
   refine pl ?_; clear sl17 sl19; refine lx [129] ?_; clear sl1 sl3 sl8 sl9 sl18; intro s43 sl1 sl3 sl8 sl9 sl18 sl129; refine ln ?_; intros
   refine cond_f ?_
   refine nr ?_; intros; refine P2 ?_; clear sl129; refine lx [131] ?_; clear sl1 sl3 sl8 sl9 sl18; intro s44 sl1 sl3 sl8 sl9 sl18 sl131; refine ln ?_; intros
   refine cond_E sl131 (by decide) ?_ ?_ <;> (clear sl131; intro h131 sl131)
   ·skip
    refine nr ?_; intros; refine cal (awake_any _) ?_; rintro e w45 ⟨rfl, hb46⟩; refine ⟨_, rfl, ?_⟩; clear qb3 qb5; replace hr9 := Rd.at hr9 hb46; replace hr16 := Rd.at hr16 hb46; revert HB; revert HL2; revert HL1; revert kb5; revert kb3; refine uA hb46 ?_; clear hb46; intro kb3 qb3 kb5 qb5 HL1 HL2 HB; refine pl ?_; clear sl1 sl3 sl8 sl9 sl18 sl131; refine lx [6] ?_; intro s47 sl6; refine ln ?_; intros
    refine XV9c ?_; exact ⟨rfl, HB.out.toBelow⟩
   ·skip
    obtain ⟨k, rfl⟩ : ∃ n : Nat, k9 = n := ⟨k9.toNat, by have h := h131; simp at h; omega⟩
    have hk : k < l.length := by omega
    have hkk : (k : Int) < l.length := by omega
    have hkc : k < cntN ev mn := by have := Hln.out; omega
    have hne : markI s fs ev mn k ≠ markI s [] ev mn k := by
      rcases Hd.out with ⟨j, h1, h2, h⟩ | h
      · rw [Hk9.out] at h; have h := congrArg Prod.fst h; have hj : j = k := (by simp at h; omega); subst hj; simp only [Hll.out, ← HL2e.out] at h2; rw [logL_at, logL_at] at h2; exact h2
      · rw [Hk9.out] at h; have h := congrArg Prod.fst h; simp at h <;> omega
    obtain ⟨n, hn1, hn2⟩ := mark_first hev1.1 hkc hne; obtain ⟨st, hfr⟩ : ∃ st, firstR s fs (mn : Int) = ((n : Int), st, 0) := ⟨_, by unfold firstR; rw [Hak.out, if_neg (by decide), Int.toNat_natCast, hn1]⟩; have Hfr := hid hfr
    have hld : l[k].done = (endN ev mn k : Int) := by simp only [Hll.out]; rw [logL_at]; rfl
    have Hld := hid hld
    have hnl : (n : Int) < (endN ev mn k : Int) := by omega
    clear hne hn1 hn2 hfr hld
    refine nr ?_; intros; have cb3 := clx kb3
    refine P3 ?_
    refine cal (tfirst12_v s A af cf fs (mn : Int) (n : Int) 0 st _ (HR.out.old HB.out) HL.out hlf (Rd.oldB HF.out HB.out (by simp)) Hfr.out) ?_; rintro e w48 ⟨rfl, hb49⟩; refine ⟨_, rfl, ?_⟩; clear cb3; clear qb3 qb5; replace hr9 := Rd.at hr9 hb49; replace hr16 := Rd.at hr16 hb49; revert HB; revert HL2; revert HL1; revert kb5; revert kb3; refine uA hb49 ?_; clear hb49; intro kb3 qb3 kb5 qb5 HL1 HL2 HB
    refine P4 ?_
    refine pa (fun w50 B21 hB kb21 hb51 => ?_); have gb21 := HB.out.gB hB; have lHL1_b21 := HL1.out.gB hB; have lHL2_b21 := HL2.out.gB hB; have ob3_b21 := oB qb3 hB; have ob5_b21 := oB qb5 hB; have eb21 := eB hB; clear hB; clear qb3 qb5; replace hr9 := Rd.at hr9 hb51; replace hr16 := Rd.at hr16 hb51; revert HB; revert HL2; revert HL1; revert kb5; revert kb3; refine uA hb51 ?_; clear hb51; intro kb3 qb3 kb5 qb5 HL1 HL2 HB; have qb21 := kb21.1; refine pl ?_; have cb21 := clx kb21; have zb21 := kb21.2.2; refine pl ?_; refine sto kb21 ?_; clear kb21 cb21 zb21; intro w52 kb21 hb53; clear qb3 qb5 qb21; replace hr9 := Rd.oldN hr9 hb53 XV9b; replace hr16 := Rd.oldN hr16 hb53 (fun hl b hb hm => by have n1 := H16.out hl b hb; have n2 := HL2.out.size; simp at hm <;> omega); revert HB; revert HL2; revert HL1; revert kb5; revert kb3; refine uO hb53 ?_; clear hb53; intro kb3 qb3 kb5 qb5 HL1 HL2 HB; have qb21 := kb21.1; refine pl ?_; clear sl1 sl3 sl8 sl131; refine lx [17,20] ?_; clear sl9 sl18; intro s54 sl9 sl18 sl17 sl20
    refine lr ?_; intros; obtain ⟨b9, o9, ha9, hb9, c0, c1, c2⟩ := RdMk.ne hr9 hk; subst ha9; rw [Hld.out] at c0
    refine P3 ?_
    iterate 7 refine py ?_
    refine P2 ?_; refine listF_yes rfl rfl (by decide) ?_ (fun K' hK => ?_); (focus (go_simp; done)); unfold opF; go_simp; refine (awake_any _).mono ?_; rintro e w55 ⟨rfl, hb56⟩; refine ⟨_, rfl, hK _ _ ?_⟩; clear hK K'; clear qb3 qb5 qb21; replace hr9 := Rd.at hr9 hb56; replace hr16 := Rd.at hr16 hb56; revert HB; revert HL2; revert HL1; revert kb21; revert kb5; revert kb3; refine uA hb56 ?_; clear hb56; intro kb3 qb3 kb5 qb5 kb21 qb21 HL1 HL2 HB; refine P2 ?_; clear sl9 sl17 sl18 sl20; refine lx [6] ?_; intro s57 sl6; refine ln ?_; intros
    refine XV9c ?_; exact ⟨rfl, HB.out.toBelow⟩

end Go.Proofs.YtleknidlgmmgbaaGreat
