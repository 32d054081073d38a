/- TwinSeals. -/
import Derived.Test.YtleknidlgmmgbaaGreattbW51
import Derived.Test.YtleknidlgmmgbaaGreattbR7
import Derived.Test.YtleknidlgmmgbaaGreattbT5
import Derived.Test.YtleknidlgmmgbaaGreattbW24
import Derived.Test.YtleknidlgmmgbaaGreattbCX
set_option linter.all false
namespace Go.Proofs.YtleknidlgmmgbaaGreat

open Go.RowKit


theorem tSeal_v (s : St4) (A : SA) (sv er : Int) (w : World) (hS : sealR s = (sv, er)) (hR : RdSt w s A) (hL : LenI s) : Calls Tryz.prog 36 #[.agg #[.slice A.sa s.store.length A.sc, .slice A.ta s.tape.length A.tc, .int .i64 s.taken, .slice A.pa s.printed.length A.pc, .int .i64 s.time, .int .i64 s.pc, .int .i64 s.done, .int .i64 s.why]] w (fun e w' => e = .returned (.tuple #[.int .i64 sv, .int .i64 er]) ∧ Below w.heap.size w w') := by
  have h := tSeal_any s A w hR hL; rw [hS] at h; exact h
theorem sealR_bad {s : St4} {sv er : Int} (h : sealR s = (sv, er)) (he : ¬ er = 0) : sv = 0 := by
  unfold sealR at h
  by_cases h1 : (chk4 s).2.2 = 0
  · rw [if_pos h1] at h; exact absurd (congrArg Prod.snd h).symm he
  · rw [if_neg h1] at h; exact (congrArg Prod.fst h).symm
theorem sealR_good {s : St4} {sv : Int} (h : sealR s = (sv, 0)) : OkI s ∧ sv = sealI' s := by
  unfold sealR at h
  by_cases h1 : (chk4 s).2.2 = 0
  · rw [if_pos h1] at h; exact ⟨ok_iff.1 h1, (congrArg Prod.fst h).symm⟩
  · rw [if_neg h1] at h; exact absurd (congrArg Prod.snd h) h1
theorem sealR_ok {s : St4} (h : OkI s) : sealR s = (sealI' s, 0) := by unfold sealR; rw [if_pos (ok_iff.2 h)]
theorem tSeal_w (s : St4) (A : SA) (n : Nat) (w : World) (hR : RdSt w s A) (hO : OkI s) (hn : s.store.length = n) :
    Calls Tryz.prog 36 #[.agg #[.slice A.sa n A.sc, .slice A.ta s.tape.length A.tc, .int .i64 s.taken, .slice A.pa s.printed.length A.pc, .int .i64 s.time, .int .i64 s.pc, .int .i64 s.done, .int .i64 s.why]] w (fun e w' => e = .returned (.tuple #[.int .i64 (sealI' s), .int .i64 0]) ∧ Below w.heap.size w w') := by
  have h := tSeal_any s A w hR hO.len; rw [sealR_ok hO, hn] at h; exact h
theorem turnN' {x : Int} {l : Nat} (hx : 0 ≤ x) (hl : 0 < l) : ∃ n : Nat, x.tmod (l : Int) = (n : Int) ∧ n < l := by
  obtain ⟨y, rfl⟩ := Int.eq_ofNat_of_zero_le hx; exact ⟨y % l, (Int.ofNat_tmod _ _).symm, Nat.mod_lt _ hl⟩

set_option maxRecDepth 100000 in
set_option maxHeartbeats 32000000 in
theorem seals_walk (s : St4) (A : SA) (x0 x1 : Int) (w : World) (hR : RdSt w s A) (hL : LenI s) (hx0 : 0 ≤ x0 ∧ x0 ≤ 4294967295) (hx1 : 0 ≤ x1 ∧ x1 ≤ 4294967295) :
    Calls Tryz.prog 13 #[.agg #[.slice A.sa s.store.length A.sc, .slice A.ta s.tape.length A.tc, .int .i64 s.taken, .slice A.pa s.printed.length A.pc, .int .i64 s.time, .int .i64 s.pc, .int .i64 s.done, .int .i64 s.why], .agg #[.int .u32 x0, .int .u32 x1]] w (fun e w' => e = .returned (.bool true) ∧ Below w.heap.size w w') := by
 have HR := hid hR; have HL := hid hL; clear hR hL; have y0 : IntKind.i64.wrap x0 = x0 := IntWalk.i64_in _ (by omega); have y1 : IntKind.i64.wrap x1 = x1 := IntWalk.i64_in _ (by omega); obtain ⟨k, hk, hkl⟩ := turnN' (x := x0) (l := 129) hx0.1 (by omega); have hk' : x0.tmod 129 = (k : Int) := hk; obtain ⟨v, hv, hvl⟩ := turnN' (x := x1) (l := 16777216) hx1.1 (by omega); have hv' : x1.tmod 16777216 = (v : Int) := hv; have wk : IntKind.i64.wrap (k : Int) = (k : Int) := IntWalk.i64_in _ (by omega); have wv : IntKind.i64.wrap (v : Int) = (v : Int) := IntWalk.i64_in _ (by omega); clear hk hv; obtain ⟨⟨sv, er⟩, hSl⟩ : ∃ z, sealR s = z := ⟨_, rfl⟩; have HSl := hid hSl; clear hSl; obtain ⟨iI, hiI, hzI, hyI, hxI⟩ := info_parts info_int
 refine enter_F Tryz.func13 rfl Tryz.ntmps13 (by simp) ?_
 intro s0 hs; have sl0 : s0 0 = .agg #[.slice A.sa s.store.length A.sc, .slice A.ta s.tape.length A.tc, .int .i64 s.taken, .slice A.pa s.printed.length A.pc, .int .i64 s.time, .int .i64 s.pc, .int .i64 s.done, .int .i64 s.why] := hs 0 (by simp); have sl1 : s0 1 = .agg #[.int .u32 x0, .int .u32 x1] := hs 1 (by simp); clear hs; have HB := hid (OldB.refl [] w)
 repeat ((fail_if_success refine stp ?_); go_step)
 refine region_F ?_; refine pa (fun w1 B2 hB kb2' hb2 => ?_); have gb2 := HB.out.gB hB; have eb2 := eB hB; clear hB; replace HB := bE HB hb2; clear hb2; have kb2 := kb2'; clear kb2'; have qb2 := kb2.1; refine pa (fun w3 B3 hB kb3' hb4 => ?_); have gb3 := HB.out.gB hB; have ob2_b3 := oB qb2 hB; have eb3 := eB hB; clear hB; clear qb2; replace kb2 := kb2.at hb4; replace HB := bE HB hb4; clear hb4; have qb2 := kb2.1; have kb3 := kb3'; clear kb3'; have qb3 := kb3.1; refine pl ?_; refine lsa fun s5 z' => ?_; have sl2 := gu 2 z'; have sl3 := gu 3 z'; clear z' sl0 sl1; refine lsn ?_
 repeat ((fail_if_success refine stp ?_); go_step)
 refine region_F ?_; obtain ⟨cb2_0, cb2_1, cb2_2, cb2_3, cb2_4, cb2_5, cb2_6, cb2_7⟩ := cl8 kb2; refine pl ?_; refine cal (tSeal_v s A sv er _ HSl.out (HR.out.old HB.out) HL.out) ?_; rintro e w6 ⟨rfl, hb7⟩; refine ⟨_, rfl, ?_⟩; clear cb2_0 cb2_1 cb2_2 cb2_3 cb2_4 cb2_5 cb2_6 cb2_7; clear qb2 qb3; replace kb2 := kb2.at hb7; replace kb3 := kb3.at hb7; replace HB := bE HB hb7; clear hb7; have qb2 := kb2.1; have qb3 := kb3.1
 iterate 5 refine pl ?_
 refine lsa fun s8 z' => ?_; replace sl2 := slg z' sl2; replace sl3 := slg z' sl3; have sl5 := gu 5 z'; have sl6 := gu 6 z'; clear z'; refine lsn ?_
 repeat ((fail_if_success refine stp ?_); go_step)
 refine region_F ?_; refine pl ?_; refine pl ?_; refine lsa fun s9 z' => ?_; replace sl2 := slg z' sl2; replace sl3 := slg z' sl3; replace sl5 := slg z' sl5; have sl17 := gu 17 z'; clear z' sl6; refine lsn ?_
 repeat ((fail_if_success refine stp ?_); go_step)
 refine cond_E sl17 (by decide) ?_ ?_ <;> (clear sl17; intro h17 sl17)
 ·skip
  have h9 : ¬ er = 0 := by simpa using h17
  obtain rfl : sv = 0 := sealR_bad HSl.out h9
  repeat ((fail_if_success refine stp ?_); go_step)
  refine region_F ?_
  iterate 3 refine pl ?_
  refine listF_yes rfl rfl (by decide) ?_ (fun K' hK => ?_); (focus (go_simp; done)); unfold opF; go_simp; refine (awake_any _).mono ?_; rintro e w10 ⟨rfl, hb11⟩; refine ⟨_, rfl, hK _ _ ?_⟩; clear hK K'; clear qb2 qb3; replace kb2 := kb2.at hb11; replace kb3 := kb3.at hb11; replace HB := bE HB hb11; clear hb11; have qb2 := kb2.1; have qb3 := kb3.1; refine pl ?_; refine pl ?_; refine lsa fun s12 z' => ?_; have sl4 := gu 4 z'; clear z' sl2 sl3 sl5 sl17; refine lsn ?_
  repeat ((fail_if_success refine stp ?_); go_step)
  refine ret_F _ (res_t Tryz.results13 ((getD_F (by decide)).trans sl4)) ?_; exact ⟨rfl, HB.out.toBelow⟩
 ·skip
  have h9 : er = 0 := by simpa using h17
  subst h9; obtain ⟨hOk, hsv⟩ : OkI s ∧ sv = sealI' s := sealR_good HSl.out; have Hok := hid hOk; have Hsv := hid hsv; have hsb := sealI_bd s; rw [← hsv] at hsb
  have n1 : ¬ sv < 0 := by omega
  have n2 : ¬ (16777259 : Int) ≤ sv := by omega
  clear hOk hsv
  repeat ((fail_if_success refine stp ?_); go_step)
  refine region_F ?_; refine pl ?_; obtain ⟨cb2_0, cb2_1, cb2_2, cb2_3, cb2_4, cb2_5, cb2_6, cb2_7⟩ := cl8 kb2
  iterate 4 refine pl ?_
  refine lsa fun s13 z' => ?_; replace sl2 := slg z' sl2; replace sl3 := slg z' sl3; replace sl5 := slg z' sl5; have sl27 := gu 27 z'; clear z' sl17
  refine boolG sl27 (fun sl27' h27 => ?_) (fun sl27' h27 => ?_) <;> (clear sl27; have sl27 := sl27'; clear sl27')
  ·skip
   exfalso; have h9 := h27; have l0 := Hok.out.l0; simp at h9; omega
  ·skip
   refine py ?_; refine py ?_; refine pl ?_; refine pl ?_; refine py ?_; refine py ?_; refine pl ?_; refine lsa fun s14 z' => ?_; replace sl2 := slg z' sl2; replace sl3 := slg z' sl3; replace sl5 := slg z' sl5; have sl34 := gu 34 z'; clear z' sl27; refine lsn ?_
   repeat ((fail_if_success refine stp ?_); go_step)
   refine cond_f ?_
   repeat ((fail_if_success refine stp ?_); go_step)
   have cb3_0 := kb3.cell 0 rfl; have cb3_1 := kb3.cell 1 rfl; refine regionQ_F (Below w6.heap.size w6) (by kernel_rfl) (by kernel_rfl) (Below.refl _ _).drew ?_
   iterate 10 refine lq ?_
   refine listQ_nil ?_; intro w15 hb16; clear cb2_0 cb2_1 cb2_2 cb2_3 cb2_4 cb2_5 cb2_6 cb2_7 cb3_0 cb3_1; clear qb2 qb3; replace kb2 := kb2.at hb16; replace kb3 := kb3.at hb16; replace HB := bE HB hb16; clear hb16; have qb2 := kb2.1; have qb3 := kb3.1
   repeat ((fail_if_success refine stp ?_); go_step)
   refine wp_abs (fun s17 z' => ?_); replace sl2 := slg z' sl2; replace sl5 := slg z' sl5; have sl7 := gu 7 z'; have sl8 := gu 8 z'; clear z' sl3 sl34; refine region_F ?_; obtain ⟨cb2_0, cb2_1, cb2_2, cb2_3, cb2_4, cb2_5, cb2_6, cb2_7⟩ := cl8 kb2; refine pl ?_; refine pa (fun w18 B9 hB kb9' hb19 => ?_); have gb9 := HB.out.gB hB; have ob2_b9 := oB qb2 hB; have ob3_b9 := oB qb3 hB; have eb9 := eB hB; clear hB; clear cb2_0 cb2_1 cb2_2 cb2_3 cb2_4 cb2_5 cb2_6 cb2_7; clear qb2 qb3; replace kb2 := kb2.at hb19; replace kb3 := kb3.at hb19; replace HB := bE HB hb19; clear hb19; have qb2 := kb2.1; have qb3 := kb3.1; have kb9 := kb9'; clear kb9'; have qb9 := kb9.1; obtain ⟨cb9_0, cb9_1, cb9_2, cb9_3, cb9_4, cb9_5, cb9_6, cb9_7⟩ := cl8 kb9; have zb9 := kb9.2.2; refine pl ?_; refine listF_absw (fun w20 hw' => ?_); have kb9' := cells_of hw' (Cells.set (i := 7) (Cells.set (i := 6) (Cells.set (i := 5) (Cells.set (i := 4) (Cells.set (i := 3) (Cells.set (i := 2) (Cells.set (i := 1) (Cells.set (i := 0) (kb9)))))))))
   (try simp only [stC, mC, tC, List.set_cons_zero, List.set_cons_succ] at kb9')
   have hb21 : OldB [B9] w18 w20 := oldsetN hw'; clear hw'; clear cb9_0 cb9_1 cb9_2 cb9_3 cb9_4 cb9_5 cb9_6 cb9_7 zb9; clear qb2 qb3 qb9; replace kb9 := kb9'; replace kb2 := kb2.oB hb21; replace kb3 := kb3.oB hb21; replace HB := mO HB hb21; clear hb21; have qb2 := kb2.1; have qb3 := kb3.1; have qb9 := kb9.1; clear kb9'; refine lsa fun s22 z' => ?_; replace sl2 := slg z' sl2; replace sl5 := slg z' sl5; replace sl7 := slg z' sl7; replace sl8 := slg z' sl8; have sl9 := gu 9 z'; clear z'; refine lsn ?_
   repeat ((fail_if_success refine stp ?_); go_step)
   refine region_F ?_; have Hl8 := hid Hok.out.l0; have hls : s.store.length ≤ 128 := Nat.le_of_eq Hok.out.l0; obtain ⟨N44, hN44⟩ : ∃ n, n = w20.heap.size := ⟨_, rfl⟩; have gN44 := HB.out.gB hN44; have b2N44 := oB qb2 hN44; have b3N44 := oB qb3 hN44; have b9N44 := oB qb9 hN44
   have hN44' : N44 ≤ w20.heap.size := by omega
   clear hN44; obtain ⟨B44, hB44⟩ : ∃ b, b = w20.heap.size := ⟨_, rfl⟩; refine listF_step rfl (fun K' hK => ?_); unfold opF; go_simp; refine hK _ _ ?_; clear hK K'; refine listF_absw ?_; intro w23 hw'
   have hO44 : Own int1 1 3 N44 w23 (Value.slice (some ⟨w20.heap.size, 0, none⟩) 0 0) ([] : List Int) := by rw [hw']; exact Own.lit (l := ([] : List Int)) (by omega) (by unfold maxLen; simp) rfl (fun _ => rfl)
   have hb24 : Below w20.heap.size w20 w23 := by rw [hw']; exact below_alloc1 _ _
   have hN440 : N44 ≤ w23.heap.size := by have := hb24.size; omega
   clear hw' hN44'; rw [← hB44] at hO44
   (try rw [← hB44])
   clear hB44; clear qb2 qb3 qb9; replace kb2 := kb2.at hb24; replace kb3 := kb3.at hb24; replace kb9 := kb9.at hb24; replace HB := bE HB hb24; clear hb24; have qb2 := kb2.1; have qb3 := kb3.1; have qb9 := kb9.1; refine pl ?_; obtain ⟨cb2_0, cb2_1, cb2_2, cb2_3, cb2_4, cb2_5, cb2_6, cb2_7⟩ := cl8 kb2; refine pl ?_; refine listF_step rfl (fun K' hK => ?_); have n0 := (World.ownsRow.lt hO44 B44 rfl).1
   have ab2 : (Value.slice (some ⟨B44, 0, none⟩) 0 0).ownBlock ≠ some B2 := fun e => by simp [Value.ownBlock] at e; omega
   have ab3 : (Value.slice (some ⟨B44, 0, none⟩) 0 0).ownBlock ≠ some B3 := fun e => by simp [Value.ownBlock] at e; omega
   have ab9 : (Value.slice (some ⟨B44, 0, none⟩) 0 0).ownBlock ≠ some B9 := fun e => by simp [Value.ownBlock] at e; omega
   refine opF_app (d := 47) rfl (by decide) (.tmp 44) (.tmp 46) _ rfl 3 iI _ 8 Tryz.underlying22 hiI hzI hyI hxI rfl (by decide) (fun _ => rfl) int_one N44 _ [] s.store A.sa A.sc (by go_simp) (by go_simp) hO44 (Rd.oldB HR.out.st HB.out (by simp)) (by unfold maxLen; simp; omega) (by simp; omega) (by omega) (fun v47 w25 hO' hG hV => hK _ _ ?_); clear hK K'; replace kb2 := kb2.grown hG ab2; clear ab2; replace kb3 := kb3.grown hG ab3; clear ab3; replace kb9 := kb9.grown hG ab9; clear ab9; replace HB := hid (HB.out.grown hG (fun k hk => .inl (by simp [Value.ownBlock] at hk; omega))); replace hN440 := Nat.le_trans hN440 hG.size; rw [List.nil_append] at hO'; obtain ⟨g, c47, rfl, hg1, hg2⟩ := (Own.form hO').resolve_left (fun h => by have h9 := Hl8.out; rw [h.2] at h9; simp at h9); have kg0 := Own.toCells hO'; clear hO44 hO' hG hV n0 hg2; clear cb2_0 cb2_1 cb2_2 cb2_3 cb2_4 cb2_5 cb2_6 cb2_7; clear qb2 qb3 qb9; have qb2 := kb2.1
   have qb3 := kb3.1; have qb9 := kb9.1; have kg := kg0; clear kg0; have qg := kg.1; refine pl ?_; obtain ⟨cb9_0, cb9_1, cb9_2, cb9_3, cb9_4, cb9_5, cb9_6, cb9_7⟩ := cl8 kb9; have zb9 := kb9.2.2; refine pl ?_; refine listF_absw (fun w27 hw' => ?_); have kb9' := cells_of hw' (Cells.set (i := 0) (kb9))
   (try simp only [stC, mC, tC, List.set_cons_zero, List.set_cons_succ] at kb9')
   have hb28 : OldB [B9] w25 w27 := oldset hw'; clear hw'; clear cb9_0 cb9_1 cb9_2 cb9_3 cb9_4 cb9_5 cb9_6 cb9_7 zb9; clear qb2 qb3 qb9 qg; replace kb9 := kb9'; replace kb2 := kb2.oB hb28; replace kb3 := kb3.oB hb28; replace kg := kg.oB hb28; replace HB := mO HB hb28; clear hb28; have qb2 := kb2.1; have qb3 := kb3.1; have qb9 := kb9.1; have qg := kg.1; clear kb9'; refine lsa fun s29 z' => ?_; replace sl2 := slg z' sl2; replace sl5 := slg z' sl5; replace sl7 := slg z' sl7; replace sl8 := slg z' sl8; replace sl9 := slg z' sl9; clear z'; refine lsn ?_
   repeat ((fail_if_success refine stp ?_); go_step)
   refine region_F ?_; refine pl ?_; refine pl ?_; refine lsa fun s30 z' => ?_; replace sl2 := slg z' sl2; replace sl5 := slg z' sl5; replace sl7 := slg z' sl7; replace sl8 := slg z' sl8; replace sl9 := slg z' sl9; have sl50 := gu 50 z'; clear z'; refine lsn ?_
   repeat ((fail_if_success refine stp ?_); go_step)
   refine cond_E sl50 (by decide) ?_ ?_ <;> (clear sl50; intro h50 sl50)
   ·skip
    have hk8 : k < 128 := by have h9 := h50; simp at h9; omega
    have l0 := Hok.out.l0
    have hks : k < s.store.length := by omega
    have hks2 : (k : Int) < s.store.length := by omega
    have Hl0 := hid l0; clear l0; obtain ⟨bs, os, hae, hbs, -⟩ := RdInts.ne HR.out.st hks; obtain ⟨y, hy⟩ : ∃ y, s.store[k] = y := ⟨_, rfl⟩; have hRs := Rd.oldB HR.out.st HB.out (by simp); rw [hae] at hRs kb2; have d0 := rd_at1 hRs hks hy
    have hbw : bs < w27.heap.size := by have := HB.out.size; omega
    have Hy := hid hy; have hig : k < s.store.length := hks; clear hy hae hRs
    repeat ((fail_if_success refine stp ?_); go_step)
    refine region_F ?_; refine pl ?_; obtain ⟨cb2_0, cb2_1, cb2_2, cb2_3, cb2_4, cb2_5, cb2_6, cb2_7⟩ := cl8 kb2
    iterate 6 refine pl ?_
    refine lsa fun s31 z' => ?_; replace sl5 := slg z' sl5; replace sl7 := slg z' sl7; replace sl8 := slg z' sl8; replace sl9 := slg z' sl9; have sl57 := gu 57 z'; clear z' sl2 sl50; refine lsn ?_
    repeat ((fail_if_success refine stp ?_); go_step)
    refine cond_E sl57 (by decide) ?_ ?_ <;> (clear sl57; intro h57 sl57)
    ·skip
     repeat ((fail_if_success refine stp ?_); go_step)
     refine region_F ?_; refine cal (awake_any _) ?_; rintro e w32 ⟨rfl, hb33⟩; refine ⟨_, rfl, ?_⟩; clear cb2_0 cb2_1 cb2_2 cb2_3 cb2_4 cb2_5 cb2_6 cb2_7; clear qb2 qb3 qb9 qg; replace kb2 := kb2.at hb33; replace kb3 := kb3.at hb33; replace kb9 := kb9.at hb33; replace kg := kg.at hb33; replace HB := bE HB hb33; clear hb33; have qb2 := kb2.1; have qb3 := kb3.1; have qb9 := kb9.1; have qg := kg.1; refine pl ?_; refine lsa fun s34 z' => ?_; have sl4 := gu 4 z'; clear z' sl5 sl7 sl8 sl9 sl57; refine lsn ?_
     repeat ((fail_if_success refine stp ?_); go_step)
     refine ret_F _ (res_t Tryz.results13 ((getD_F (by decide)).trans sl4)) ?_; exact ⟨rfl, HB.out.toBelow⟩
    ·skip
     have HlA := hid (law_seal Hok.out hk8 (v := (v : Int)) (by omega) (by rw [List.getD_eq_getElem?_getD, List.getElem?_eq_getElem hks, Option.getD_some, Hy.out]; have h9 := h57; simp at h9; exact h9))
     have nA : ¬ sealI' { s with store := s.store.set k (v : Int) } = sv := by rw [Hsv.out]; exact HlA.out.2
     repeat ((fail_if_success refine stp ?_); go_step)
     refine region_F ?_; refine pl ?_; obtain ⟨cb9_0, cb9_1, cb9_2, cb9_3, cb9_4, cb9_5, cb9_6, cb9_7⟩ := cl8 kb9
     iterate 4 refine pl ?_
     have zg := kg.2.2; have f0 := ints_cell kg hig; refine pl ?_; refine listF_absw ?_; intro w35 hw'; have kg' := cells_of hw' (Cells.set (kg)); rw [ints_set] at kg'; have hb36 : OldB [g] w27 w35 := oldset hw'; clear hw'; clear cb2_0 cb2_1 cb2_2 cb2_3 cb2_4 cb2_5 cb2_6 cb2_7 cb9_0 cb9_1 cb9_2 cb9_3 cb9_4 cb9_5 cb9_6 cb9_7 zg; clear qb2 qb3 qb9 qg; replace kg := kg'; replace kb2 := kb2.oB hb36; replace kb3 := kb3.oB hb36; replace kb9 := kb9.oB hb36; replace HB := mO HB hb36; clear hb36; have qb2 := kb2.1; have qb3 := kb3.1; have qb9 := kb9.1; have qg := kg.1; clear kg'; refine lsa fun s37 z' => ?_; replace sl5 := slg z' sl5; replace sl9 := slg z' sl9; clear z' sl7 sl8 sl57; refine lsn ?_
     repeat ((fail_if_success refine stp ?_); go_step)
     refine region_F ?_; obtain ⟨cb9_0, cb9_1, cb9_2, cb9_3, cb9_4, cb9_5, cb9_6, cb9_7⟩ := cl8 kb9; refine pl ?_; refine cal (tSeal_w { s with store := s.store.set k v } ⟨some ⟨g, 0, none⟩, c47, A.ta, A.tc, A.pa, A.pc⟩ s.store.length _ ⟨Cells.rd (f := int1) (m := 1) (fun _ => rfl) kg, Rd.oldB HR.out.tp HB.out (by simp), Rd.oldB HR.out.pr HB.out (by simp)⟩ HlA.out.1 (by simp)) ?_; rintro e w38 ⟨rfl, hb39⟩; refine ⟨_, rfl, ?_⟩; clear cb9_0 cb9_1 cb9_2 cb9_3 cb9_4 cb9_5 cb9_6 cb9_7; clear qb2 qb3 qb9 qg; replace kb2 := kb2.at hb39; replace kb3 := kb3.at hb39; replace kb9 := kb9.at hb39; replace kg := kg.at hb39; replace HB := bE HB hb39; clear hb39; have qb2 := kb2.1; have qb3 := kb3.1
     have qb9 := kb9.1; have qg := kg.1
     iterate 5 refine pl ?_
     refine lsa fun s40 z' => ?_; replace sl5 := slg z' sl5; have sl6 := gu 6 z'; have sl10 := gu 10 z'; clear z' sl9; refine lsn ?_
     repeat ((fail_if_success refine stp ?_); go_step)
     refine region_F ?_
     iterate 3 refine pl ?_
     iterate 3 refine py ?_
     refine pl ?_; refine pl ?_; refine listF_yes rfl rfl (by decide) ?_ (fun K' hK => ?_); (focus (go_simp; done)); unfold opF; go_simp; refine (awake_any _).mono ?_; rintro e w41 ⟨rfl, hb42⟩; refine ⟨_, rfl, hK _ _ ?_⟩; clear hK K'; clear qb2 qb3 qb9 qg; replace kb2 := kb2.at hb42; replace kb3 := kb3.at hb42; replace kb9 := kb9.at hb42; replace kg := kg.at hb42; replace HB := bE HB hb42; clear hb42; have qb2 := kb2.1; have qb3 := kb3.1; have qb9 := kb9.1; have qg := kg.1; refine pl ?_; refine pl ?_; refine lsa fun s43 z' => ?_; have sl4 := gu 4 z'; clear z' sl5 sl6 sl10; refine lsn ?_
     repeat ((fail_if_success refine stp ?_); go_step)
     refine ret_F _ (res_t Tryz.results13 ((getD_F (by decide)).trans sl4)) ?_; refine ⟨?_, HB.out.toBelow⟩; have e9 := bne_iff_ne.2 nA
     first | rfl | (rw [e9]; done) | (rw [e9]; rfl) | (simp only [e9]; done) | simp [e9]
   ·skip
    have hk8 : k = 128 := by have h9 := h50; simp at h9; omega
    have hpc := Hok.out.pc; obtain ⟨q, hq, hql⟩ := turnN' (x := (v : Int)) (l := 7) (by omega) (by omega); have hq' : (v : Int).tmod 7 = (q : Int) := hq; have wq : IntKind.i64.wrap (q : Int) = (q : Int) := IntWalk.i64_in _ (by omega); have wq1 : IntKind.i64.wrap (1 + (q : Int)) = 1 + (q : Int) := IntWalk.i64_in _ (by omega); have wq2 : IntKind.i64.wrap (16 * (1 + (q : Int))) = 16 * (1 + (q : Int)) := IntWalk.i64_in _ (by omega); have wq3 : IntKind.i64.wrap (s.pc + 16 * (1 + (q : Int))) = s.pc + 16 * (1 + (q : Int)) := IntWalk.i64_in _ (by omega); have tq : (s.pc + 16 * (1 + (q : Int))).tmod 128 = (s.pc + 16 * (1 + (q : Int))) % 128 := Int.tmod_eq_emod_of_nonneg (by omega); obtain ⟨p, hp⟩ : ∃ p, (s.pc + 16 * (1 + (q : Int))) % 128 = p := ⟨_, rfl⟩; rw [hp] at tq; have wp : IntKind.i64.wrap p = p := IntWalk.i64_in _ (by omega); have HlB := hid (law_sealA Hok.out (p := p) (by omega) (by omega) (by omega))
    have nB : ¬ sealI' { s with pc := p } = sv := by rw [Hsv.out]; exact HlB.out.2
    clear hq hp
    repeat ((fail_if_success refine stp ?_); go_step)
    refine region_F ?_; refine pl ?_; obtain ⟨cb2_0, cb2_1, cb2_2, cb2_3, cb2_4, cb2_5, cb2_6, cb2_7⟩ := cl8 kb2
    iterate 8 refine pl ?_
    obtain ⟨cb9_0, cb9_1, cb9_2, cb9_3, cb9_4, cb9_5, cb9_6, cb9_7⟩ := cl8 kb9; have zb9 := kb9.2.2; refine pl ?_; refine listF_absw (fun w44 hw' => ?_); have kb9' := cells_of hw' (Cells.set (i := 5) (kb9))
    (try simp only [stC, mC, tC, List.set_cons_zero, List.set_cons_succ] at kb9')
    have hb45 : OldB [B9] w27 w44 := oldset hw'; clear hw'; clear cb2_0 cb2_1 cb2_2 cb2_3 cb2_4 cb2_5 cb2_6 cb2_7 cb9_0 cb9_1 cb9_2 cb9_3 cb9_4 cb9_5 cb9_6 cb9_7 zb9; clear qb2 qb3 qb9 qg; replace kb9 := kb9'; replace kb2 := kb2.oB hb45; replace kb3 := kb3.oB hb45; replace kg := kg.oB hb45; replace HB := mO HB hb45; clear hb45; have qb2 := kb2.1; have qb3 := kb3.1; have qb9 := kb9.1; have qg := kg.1; clear kb9'; refine lsa fun s46 z' => ?_; replace sl5 := slg z' sl5; replace sl9 := slg z' sl9; clear z' sl2 sl7 sl8 sl50; refine lsn ?_
    repeat ((fail_if_success refine stp ?_); go_step)
    refine region_F ?_; obtain ⟨cb9_0, cb9_1, cb9_2, cb9_3, cb9_4, cb9_5, cb9_6, cb9_7⟩ := cl8 kb9; refine pl ?_; refine cal (tSeal_w { s with pc := p } ⟨some ⟨g, 0, none⟩, c47, A.ta, A.tc, A.pa, A.pc⟩ s.store.length _ ⟨Cells.rd (f := int1) (m := 1) (fun _ => rfl) kg, Rd.oldB HR.out.tp HB.out (by simp), Rd.oldB HR.out.pr HB.out (by simp)⟩ HlB.out.1 (by rfl)) ?_; rintro e w47 ⟨rfl, hb48⟩; refine ⟨_, rfl, ?_⟩; clear cb9_0 cb9_1 cb9_2 cb9_3 cb9_4 cb9_5 cb9_6 cb9_7; clear qb2 qb3 qb9 qg; replace kb2 := kb2.at hb48; replace kb3 := kb3.at hb48; replace kb9 := kb9.at hb48; replace kg := kg.at hb48; replace HB := bE HB hb48; clear hb48; have qb2 := kb2.1; have qb3 := kb3.1; have qb9 := kb9.1
    have qg := kg.1
    iterate 5 refine pl ?_
    refine lsa fun s49 z' => ?_; replace sl5 := slg z' sl5; have sl6 := gu 6 z'; have sl10 := gu 10 z'; clear z' sl9; refine lsn ?_
    repeat ((fail_if_success refine stp ?_); go_step)
    refine region_F ?_
    iterate 3 refine pl ?_
    iterate 3 refine py ?_
    refine pl ?_; refine pl ?_; refine listF_yes rfl rfl (by decide) ?_ (fun K' hK => ?_); (focus (go_simp; done)); unfold opF; go_simp; refine (awake_any _).mono ?_; rintro e w50 ⟨rfl, hb51⟩; refine ⟨_, rfl, hK _ _ ?_⟩; clear hK K'; clear qb2 qb3 qb9 qg; replace kb2 := kb2.at hb51; replace kb3 := kb3.at hb51; replace kb9 := kb9.at hb51; replace kg := kg.at hb51; replace HB := bE HB hb51; clear hb51; have qb2 := kb2.1; have qb3 := kb3.1; have qb9 := kb9.1; have qg := kg.1; refine pl ?_; refine pl ?_; refine lsa fun s52 z' => ?_; have sl4 := gu 4 z'; clear z' sl5 sl6 sl10; refine lsn ?_
    repeat ((fail_if_success refine stp ?_); go_step)
    refine ret_F _ (res_t Tryz.results13 ((getD_F (by decide)).trans sl4)) ?_; refine ⟨?_, HB.out.toBelow⟩; have e9 := bne_iff_ne.2 nB
    first | rfl | (rw [e9]; done) | (rw [e9]; rfl) | (simp only [e9]; done) | simp [e9]

end Go.Proofs.YtleknidlgmmgbaaGreat
