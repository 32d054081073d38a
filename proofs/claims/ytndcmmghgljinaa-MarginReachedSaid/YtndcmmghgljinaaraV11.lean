/- MarginReached. -/
import Derived.Test.YtndcmmghgljinaaraY1
import Derived.Test.YtndcmmghgljinaaraM13
set_option linter.all false
namespace Go.Proofs.Ytndcmmghgljinaa

open Go.RowKit

set_option maxRecDepth 100000 in
set_option maxHeartbeats 16000000 in
theorem reached_walk (k : Kd) (a : Option Addr) (c : Nat) (ac : Option Addr) (cc : Nat) (cs : List MCk) (x0 x1 : Int) (w : World) (hK0 : KdIn w k a) (hRc : RdCks w ac cs) (hlc : cs.length ≤ 9223372036854775807) (hx0 : 0 ≤ x0 ∧ x0 ≤ 4294967295) (hx1 : 0 ≤ x1 ∧ x1 ≤ 4294967295) :
    Calls Try.prog 10 #[.agg #[.int .i64 k.new, .int .i64 k.wear.lo, .int .i64 k.wear.hi, .slice a k.steps.length c], .slice ac cs.length cc, .agg #[.int .u32 x0, .int .u32 x1]] w (fun e w' => e = .returned (.bool true) ∧ Below w.heap.size w w') := by
 have HR := hid hK0.2.2; have hN := hK0.1; have hsl := hK0.2.1; clear hK0; have HRc := hid hRc; clear hRc; have y0 : IntKind.i64.wrap x0 = x0 := IntWalk.i64_in _ (by omega); have y1 : IntKind.i64.wrap x1 = x1 := IntWalk.i64_in _ (by omega); obtain ⟨i0, hi0, hz0, hy0, hx9⟩ := info_parts info_cloneCk
 obtain ⟨hn, hm1, hm2⟩ : ∃ n : Nat, x0.tmod 100001 = (n : Int) ∧ n < 100001 := by obtain ⟨n, h1, h2, _⟩ := turn_nat (x := x0) (l := 100001) hx0.1 (by omega) (by omega); exact ⟨n, h1, h2⟩
 have wa := IntWalk.i64_in (hn : Int) (by omega); clear hx0; have hx0 := hx9; obtain ⟨⟨⟨lo, hi⟩, er⟩, hA⟩ : ∃ z : Span × Int, asked k cs hn = z := ⟨_, rfl⟩; have HA := hid hA; clear hA
 refine enter_F Try.func10 rfl Try.ntmps10 (by simp) ?_
 intro s0 hs; have sl0 : s0 0 = .agg #[.int .i64 k.new, .int .i64 k.wear.lo, .int .i64 k.wear.hi, .slice a k.steps.length c] := hs 0 (by simp); have sl1 : s0 1 = .slice ac cs.length cc := hs 1 (by simp); have sl2 : s0 2 = .agg #[.int .u32 x0, .int .u32 x1] := hs 2 (by simp); clear hs; have HB := hid (OldB.refl [] w)
 repeat ((fail_if_success refine stp ?_); with_reducible go_step)
 refine region_F ?_; refine pa (fun w1 B3 hB kb3' hb2 => ?_); have gb3 := HB.out.gB hB; have eb3 := eB hB; clear hB; replace HB := hid (HB.out.below hb2); clear hb2; have kb3 := kb3'; clear kb3'; have qb3 := kb3.1; refine pa (fun w3 B5 hB kb5' hb4 => ?_); have gb5 := HB.out.gB hB; have ob3_b5 := oB qb3 hB; have eb5 := eB hB; clear hB; clear qb3; replace kb3 := kb3.at hb4; replace HB := hid (HB.out.below hb4); clear hb4; have qb3 := kb3.1; have kb5 := kb5'; clear kb5'; have qb5 := kb5.1; refine pl ?_; refine listF_abs (fun s5 z' => ?_); replace sl1 := gs 1 z' sl1; have sl3 := gu 3 z'; have sl5 := gu 5 z'; clear z' sl0 sl2; refine listF_nil ?_
 repeat ((fail_if_success refine stp ?_); with_reducible go_step)
 refine region_F ?_; refine pl ?_; have cb5_0 := kb5.cell 0 rfl; have cb5_1 := kb5.cell 1 rfl
 iterate 4 refine pl ?_
 refine listF_abs (fun s6 z' => ?_); replace sl1 := gs 1 z' sl1; replace sl3 := gs 3 z' sl3; replace sl5 := gs 5 z' sl5; have sl7 := gu 7 z'; clear z'; refine listF_nil ?_
 repeat ((fail_if_success refine stp ?_); with_reducible go_step)
 by_cases he : er = 0
 ·skip
  subst he
  have hE : (asked k cs hn).2 = 0 := by rw [HA.out]
  have hS := asked_in hE; rw [HA.out] at hS; obtain ⟨hK, _, ⟨⟨_, s2⟩, _, s4⟩, s5, _, _, s1, s3⟩ := hS; have s1 : 0 ≤ lo := s1; have s2 : lo ≤ 1000000 := s2; have s3 : 0 ≤ hi := s3; have s4 : hi ≤ 1000000 := s4; have s5 : lo ≤ hi := s5; have HK := hid hK; have hl30 : cs.length ≤ 30 := (asked_ok hE).2.1; clear hK hE; refine region_F ?_; have cb3_0 := kb3.cell 0 rfl; have cb3_1 := kb3.cell 1 rfl; have cb3_2 := kb3.cell 2 rfl; have cb3_3 := kb3.cell 3 rfl
  iterate 3 refine pl ?_
  refine listF_step rfl (fun K' hK => ?_); unfold opF; go_simp; refine (qnow_v k a c ac cc cs hn lo hi 0 _ HA.out hN hsl (Rd.oldB HR.out HB.out (by simp)) (Rd.oldB HRc.out HB.out (by simp)) hlc).mono ?_; rintro e w7 ⟨rfl, hb8⟩; refine ⟨_, rfl, hK _ _ ?_⟩; clear hK K'; clear cb3_0 cb3_1 cb3_2 cb3_3 cb5_0 cb5_1; clear qb3 qb5; replace kb3 := kb3.at hb8; replace kb5 := kb5.at hb8; replace HB := hid (HB.out.below hb8); clear hb8; have qb3 := kb3.1; have qb5 := kb5.1
  iterate 3 refine pl ?_
  refine pa (fun w9 B8 hB kb8' hb10 => ?_); have gb8 := HB.out.gB hB; have ob3_b8 := oB qb3 hB; have ob5_b8 := oB qb5 hB; have eb8 := eB hB; clear hB; clear qb3 qb5; replace kb3 := kb3.at hb10; replace kb5 := kb5.at hb10; replace HB := hid (HB.out.below hb10); clear hb10; have qb3 := kb3.1; have qb5 := kb5.1; have kb8 := kb8'; clear kb8'; have qb8 := kb8.1; have cb8_0 := kb8.cell 0 rfl; have cb8_1 := kb8.cell 1 rfl; have zb8 := kb8.2.2; refine pl ?_; refine listF_absw (fun w11 hw' => ?_); have kb8' := cells_of hw' (Cells.set (i := 1) (Cells.set (i := 0) (kb8)))
  (try simp only [vC, List.set_cons_zero, List.set_cons_succ] at kb8')
  have hb12 : OldB [B8] w9 w11 := oldset hw'; clear hw'; clear cb8_0 cb8_1 zb8; clear qb3 qb5 qb8; replace kb8 := kb8'; replace kb3 := kb3.oldB hb12 (by first | (simp; done) | (simp; omega)); replace kb5 := kb5.oldB hb12 (by first | (simp; done) | (simp; omega)); replace HB := hid (HB.out.more hb12 (by simp; try omega)); clear hb12; have qb3 := kb3.1; have qb5 := kb5.1; have qb8 := kb8.1; clear kb8'; refine pl ?_; refine listF_abs (fun s13 z' => ?_); replace sl1 := gs 1 z' sl1; replace sl3 := gs 3 z' sl3; replace sl5 := gs 5 z' sl5; replace sl7 := gs 7 z' sl7; have sl8 := gu 8 z'; have sl9 := gu 9 z'; clear z'; refine listF_nil ?_
  repeat ((fail_if_success refine stp ?_); with_reducible go_step)
  refine region_F ?_; refine pl ?_; refine pl ?_; refine listF_abs (fun s14 z' => ?_); replace sl1 := gs 1 z' sl1; replace sl3 := gs 3 z' sl3; replace sl5 := gs 5 z' sl5; replace sl7 := gs 7 z' sl7; replace sl8 := gs 8 z' sl8; have sl36 := gu 36 z'; clear z' sl9; refine listF_nil ?_
  repeat ((fail_if_success refine stp ?_); with_reducible go_step)
  refine cond_f ?_
  repeat ((fail_if_success refine stp ?_); with_reducible go_step)
  refine region_F ?_; have cb3_0 := kb3.cell 0 rfl; have cb3_1 := kb3.cell 1 rfl; have cb3_2 := kb3.cell 2 rfl; have cb3_3 := kb3.cell 3 rfl
  iterate 3 refine pl ?_
  refine listF_step rfl (fun K' hK => ?_); unfold opF; go_simp; refine (rnow_v k a c ac cc cs hn lo hi 0 _ HA.out hsl (Rd.oldB HR.out HB.out (by simp)) (Rd.oldB HRc.out HB.out (by simp)) hlc).mono ?_; rintro e w15 ⟨rfl, hb16⟩; refine ⟨_, rfl, hK _ _ ?_⟩; clear hK K'; clear cb3_0 cb3_1 cb3_2 cb3_3; clear qb3 qb5 qb8; replace kb3 := kb3.at hb16; replace kb5 := kb5.at hb16; replace kb8 := kb8.at hb16; replace HB := hid (HB.out.below hb16); clear hb16; have qb3 := kb3.1; have qb5 := kb5.1; have qb8 := kb8.1
  iterate 3 refine pl ?_
  refine pa (fun w17 B10 hB kb10' hb18 => ?_); have gb10 := HB.out.gB hB; have ob3_b10 := oB qb3 hB; have ob5_b10 := oB qb5 hB; have ob8_b10 := oB qb8 hB; have eb10 := eB hB; clear hB; clear qb3 qb5 qb8; replace kb3 := kb3.at hb18; replace kb5 := kb5.at hb18; replace kb8 := kb8.at hb18; replace HB := hid (HB.out.below hb18); clear hb18; have qb3 := kb3.1; have qb5 := kb5.1; have qb8 := kb8.1; have kb10 := kb10'; clear kb10'; have qb10 := kb10.1; have cb10_0 := kb10.cell 0 rfl; have cb10_1 := kb10.cell 1 rfl; have zb10 := kb10.2.2; refine pl ?_; refine listF_absw (fun w19 hw' => ?_); have kb10' := cells_of hw' (Cells.set (i := 1) (Cells.set (i := 0) (kb10)))
  (try simp only [vC, List.set_cons_zero, List.set_cons_succ] at kb10')
  have hb20 : OldB [B10] w17 w19 := oldset hw'; clear hw'; clear cb10_0 cb10_1 zb10; clear qb3 qb5 qb8 qb10; replace kb10 := kb10'; replace kb3 := kb3.oldB hb20 (by first | (simp; done) | (simp; omega)); replace kb5 := kb5.oldB hb20 (by first | (simp; done) | (simp; omega)); replace kb8 := kb8.oldB hb20 (by first | (simp; done) | (simp; omega)); replace HB := hid (HB.out.more hb20 (by simp; try omega)); clear hb20; have qb3 := kb3.1; have qb5 := kb5.1; have qb8 := kb8.1; have qb10 := kb10.1; clear kb10'; refine pl ?_; refine listF_abs (fun s21 z' => ?_); replace sl1 := gs 1 z' sl1; replace sl3 := gs 3 z' sl3; replace sl5 := gs 5 z' sl5; replace sl7 := gs 7 z' sl7; replace sl8 := gs 8 z' sl8; have sl11 := gu 11 z'; clear z' sl36; refine listF_nil ?_
  repeat ((fail_if_success refine stp ?_); with_reducible go_step)
  refine region_F ?_
  iterate 3 refine pl ?_
  refine py ?_; have cb8_0 := kb8.cell 0 rfl; have cb8_1 := kb8.cell 1 rfl
  iterate 4 refine py ?_
  refine pl ?_; refine pl ?_
  iterate 3 refine py ?_
  refine pl ?_; refine pl ?_
  iterate 3 refine py ?_
  refine pl ?_; refine listF_abs (fun s22 z' => ?_); replace sl1 := gs 1 z' sl1; replace sl3 := gs 3 z' sl3; replace sl5 := gs 5 z' sl5; replace sl7 := gs 7 z' sl7; replace sl8 := gs 8 z' sl8; have sl68 := gu 68 z'; clear z' sl11; refine listF_nil ?_
  repeat ((fail_if_success refine stp ?_); with_reducible go_step)
  refine cond_f ?_
  repeat ((fail_if_success refine stp ?_); with_reducible go_step)
  have wq1 : IntKind.i64.wrap (hi - lo) = hi - lo := IntWalk.i64_in _ (by omega); have wq2 : IntKind.i64.wrap (hi - lo + 1) = hi - lo + 1 := IntWalk.i64_in _ (by omega)
  have zq : ¬ hi - lo + 1 = 0 := by omega
  have tW : x1.tmod (hi - lo + 1) = x1 % (hi - lo + 1) := Int.tmod_eq_emod_of_nonneg hx1.1; have m0 := Int.emod_nonneg x1 (b := hi - lo + 1) (by omega); have m1 := Int.emod_lt_of_pos x1 (b := hi - lo + 1) (by omega); obtain ⟨rr, hrr⟩ : ∃ z, x1 % (hi - lo + 1) = z := ⟨_, rfl⟩; rw [hrr] at tW m0 m1; clear hrr; obtain ⟨V2, hV2⟩ : ∃ z, lo + rr = z := ⟨_, rfl⟩
  have wV2 : IntKind.i64.wrap (lo + rr) = V2 := by rw [IntWalk.i64_in _ (by omega)]; exact hV2
  have wrr : IntKind.i64.wrap rr = rr := IntWalk.i64_in _ (by omega)
  have hV3 : lo ≤ V2 ∧ V2 ≤ hi := by omega
  clear hV2; have cb3_0 := kb3.cell 0 rfl; have cb3_1 := kb3.cell 1 rfl; have cb3_2 := kb3.cell 2 rfl; have cb3_3 := kb3.cell 3 rfl; have cb5_0 := kb5.cell 0 rfl; have cb5_1 := kb5.cell 1 rfl; have cb10_0 := kb10.cell 0 rfl; have cb10_1 := kb10.cell 1 rfl; refine regionR_F [] [] [] [.q [], .q [], .q [], .q [], .q [], .q [], .q [], .q [], .q [], .q [], .q [], .q [], .q [], .q [], .q [], .q []] [?v31_0, ?v31_1, ?v31_2, ?v31_3, ?v31_4, ?v31_5, ?v31_6, ?v31_7, ?v31_8, ?v31_9, ?v31_10, ?v31_11, ?v31_12, ?v31_13, ?v31_14, ?v31_15] [fun _ => [], fun _ => [], fun _ => [], fun _ => [], fun _ => [], fun _ => [], fun _ => [], fun _ => [], fun _ => [], fun _ => [], fun _ => [], fun _ => [], fun _ => [], fun _ => [], fun _ => [], fun _ => []] (by kernel_rfl) (by kernel_rfl) (by kernel_rfl) (by kernel_rfl) (by kernel_rfl) (by first | exact List.nodup_nil | exact List.nodup_singleton _ | (simp; done) | (simp; omega)) bc_nil ?walk31 ?dep31
  case walk31 =>
   iterate 16 refine rq ?_
   refine walkR_nil (fun X hX w23 hwz hcz => ?_); clear hX hcz
   (try clear X)
   skip; have hb24 := hwz.unDrew; clear hwz; clear cb10_0 cb10_1 cb3_0 cb3_1 cb3_2 cb3_3 cb5_0 cb5_1 cb8_0 cb8_1; clear qb3 qb5 qb8 qb10; replace kb3 := kb3.oldB hb24 (by first | (simp; done) | (simp; omega)); replace kb5 := kb5.oldB hb24 (by first | (simp; done) | (simp; omega)); replace kb8 := kb8.oldB hb24 (by first | (simp; done) | (simp; omega)); replace kb10 := kb10.oldB hb24 (by first | (simp; done) | (simp; omega)); replace HB := hid (HB.out.more hb24 (by simp; try omega)); clear hb24; have qb3 := kb3.1; have qb5 := kb5.1; have qb8 := kb8.1; have qb10 := kb10.1; refine listF_abs (fun s25 z' => ?_); replace sl1 := gs 1 z' sl1; replace sl3 := gs 3 z' sl3; replace sl5 := gs 5 z' sl5; replace sl8 := gs 8 z' sl8; have sl12 := gu 12 z'; have sl13 := gu 13 z'; clear z' sl7 sl68; refine listF_nil ?_
   repeat ((fail_if_success refine stp ?_); with_reducible go_step)
   refine region_F ?_; refine pl ?_; have cb5_0 := kb5.cell 0 rfl; have cb5_1 := kb5.cell 1 rfl
   iterate 3 refine pl ?_
   refine listF_abs (fun s26 z' => ?_); replace sl1 := gs 1 z' sl1; replace sl3 := gs 3 z' sl3; replace sl8 := gs 8 z' sl8; replace sl12 := gs 12 z' sl12; replace sl13 := gs 13 z' sl13; have sl86 := gu 86 z'; clear z' sl5; refine listF_nil ?_
   repeat ((fail_if_success refine stp ?_); with_reducible go_step)
   clear cb5_0 cb5_1; have hj27_1 := hid sl1; have hj27_3 := hid sl3; have hj27_13 := hid sl13; refine cut_any (fun sJ wJ => ∃ (z : Int), sJ 12 = .int .i64 z ∧ sJ 1 = s26 1 ∧ sJ 3 = s26 3 ∧ sJ 13 = s26 13 ∧ OldB [] w23 wJ ∧ (lo ≤ z ∧ z ≤ hi)) ?_ ?_
   ·skip
    have HL28 := hid (OldB.refl [] w23)
    refine cond_E sl86 (by decide) ?_ ?_ <;> (clear sl86; intro h86 sl86)
    ·skip
     repeat ((fail_if_success refine stp ?_); with_reducible go_step)
     refine region_F ?_; refine pl ?_; have cb8_0 := kb8.cell 0 rfl; have cb8_1 := kb8.cell 1 rfl; refine pl ?_; refine pl ?_; refine listF_abs (fun s29 z' => ?_); replace sl1 := gs 1 z' sl1; replace sl3 := gs 3 z' sl3; replace sl12 := gu 12 z'; replace sl13 := gs 13 z' sl13; clear z' sl8 sl86; refine listF_nil ?_
     repeat ((fail_if_success refine stp ?_); with_reducible go_step)
     clear cb8_0 cb8_1; exact ⟨rfl, _, rfl, hi, (by first | (with_reducible exact sl12) | (rw [sl12]; (with_reducible go_num); done) | (rw [sl12, IntWalk.i64_in] <;> first | ((with_reducible go_num); done) | omega) | (rw [sl12]; go_num; done) | (rw [sl12]; simp; done) | (rw [sl12]; simp; omega)), (sl1.trans hj27_1.out.symm), (sl3.trans hj27_3.out.symm), (sl13.trans hj27_13.out.symm), HL28.out, ⟨s5, Int.le_refl _⟩⟩
    ·skip
     repeat ((fail_if_success refine stp ?_); with_reducible go_step)
     exact ⟨rfl, _, rfl, V2, (by first | (with_reducible exact sl12) | (rw [sl12]; (with_reducible go_num); done) | (rw [sl12, IntWalk.i64_in] <;> first | ((with_reducible go_num); done) | omega) | (rw [sl12]; go_num; done) | (rw [sl12]; simp; done) | (rw [sl12]; simp; omega)), (sl1.trans hj27_1.out.symm), (sl3.trans hj27_3.out.symm), (sl13.trans hj27_13.out.symm), HL28.out, hV3⟩
   ·skip
    clear sl8 sl12 sl86; rintro s30 w31 ⟨z, sl12, e1, e3, e13, hb32, hz2⟩; replace sl1 := e1.trans sl1; clear e1 hj27_1; replace sl3 := e3.trans sl3; clear e3 hj27_3; replace sl13 := e13.trans sl13; clear e13 hj27_13; clear qb3 qb5 qb8 qb10; replace kb3 := kb3.oldB hb32 (by first | (simp; done) | (simp; omega)); replace kb5 := kb5.oldB hb32 (by first | (simp; done) | (simp; omega)); replace kb8 := kb8.oldB hb32 (by first | (simp; done) | (simp; omega)); replace kb10 := kb10.oldB hb32 (by first | (simp; done) | (simp; omega)); replace HB := hid (HB.out.more hb32 (by simp; try omega)); clear hb32; have qb3 := kb3.1; have qb5 := kb5.1; have qb8 := kb8.1; have qb10 := kb10.1
    repeat ((fail_if_success refine stp ?_); with_reducible go_step)
    refine region_F ?_; obtain ⟨NB, hNB⟩ : ∃ n, n = w31.heap.size := ⟨_, rfl⟩; have gNB := HB.out.gB hNB; have b3NB := oB qb3 hNB; have b5NB := oB qb5 hNB; have b8NB := oB qb8 hNB
    have hNB' : NB ≤ w31.heap.size := by omega
    clear hNB; obtain ⟨B89, hB89⟩ : ∃ b, b = w31.heap.size := ⟨_, rfl⟩; refine listF_step rfl (fun K' hK => ?_); unfold opF; go_simp; refine hK _ _ ?_; clear hK K'; refine listF_absw ?_; intro w33 hw'
    have hO89 : Own MCk.cs 3 74 NB w33 (Value.slice (some ⟨w31.heap.size, 0, none⟩) 0 0) ([] : List MCk) := by rw [hw']; exact Own.lit (l := ([] : List MCk)) (by omega) (by unfold maxLen; simp) rfl (fun _ => rfl)
    have hb34 : Below w31.heap.size w31 w33 := by rw [hw']; exact below_alloc1 _ _
    have hNB0 : NB ≤ w33.heap.size := by have := hb34.size; omega
    clear hw' hNB'; rw [← hB89] at hO89
    (try rw [← hB89])
    clear hB89; clear qb3 qb5 qb8 qb10; replace kb3 := kb3.at hb34; replace kb5 := kb5.at hb34; replace kb8 := kb8.at hb34; replace kb10 := kb10.at hb34; replace HB := hid (HB.out.below hb34); clear hb34; have qb3 := kb3.1; have qb5 := kb5.1; have qb8 := kb8.1; have qb10 := kb10.1; refine pl ?_; refine listF_step rfl (fun K' hK => ?_); have n0 := (World.ownsRow.lt hO89 B89 rfl).1
    have a3 : (Value.slice (some ⟨B89, 0, none⟩) 0 0).ownBlock ≠ some B3 := fun e => by simp [Value.ownBlock] at e; omega
    have a5 : (Value.slice (some ⟨B89, 0, none⟩) 0 0).ownBlock ≠ some B5 := fun e => by simp [Value.ownBlock] at e; omega
    have a8 : (Value.slice (some ⟨B89, 0, none⟩) 0 0).ownBlock ≠ some B8 := fun e => by simp [Value.ownBlock] at e; omega
    refine opF_app (d := 91) rfl (by decide) (.tmp 89) (.tmp 90) _ rfl 74 i0 _ 24 Try.underlying33 hi0 hz0 hy0 hx9 rfl (by decide) (fun _ => rfl) ck_one NB _ [] cs ac cc (by go_simp) (by go_simp) hO89 (Rd.oldB HRc.out HB.out (by simp)) (by unfold maxLen; simp; omega) (by simp; omega) (by omega) (fun v91 w35 hO' hG hV => hK _ _ ?_); clear hK K'; replace kb3 := kb3.grown hG a3; clear a3; replace kb5 := kb5.grown hG a5; clear a5; replace kb8 := kb8.grown hG a8; clear a8; replace HB := hid (HB.out.grown hG (fun k hk => .inl (by simp [Value.ownBlock] at hk; omega))); replace hNB0 := Nat.le_trans hNB0 hG.size; rw [List.nil_append] at hO'; obtain ⟨a91, c91, rfl, hr9, hn9⟩ := Own.slice (f := MCk.cs) (m := 3) (fun _ => rfl) hO'; clear hr9 hn9 hO89 hG hV n0; clear qb3 qb5 qb8 qb10; have qb3 := kb3.1; have qb5 := kb5.1; have qb8 := kb8.1; have qb10 := kb10.1; refine pl ?_; refine listF_abs (fun s37 z' => ?_); replace sl3 := gs 3 z' sl3; replace sl12 := gs 12 z' sl12; replace sl13 := gs 13 z' sl13; have sl14 := gu 14 z'; clear z' sl1
    refine listF_nil ?_
    repeat ((fail_if_success refine stp ?_); with_reducible go_step)
    clear qb3 qb5 qb8 qb10; have hc0_3 := hid sl3; refine loop_F (n := 214) (fun kJ sJ wJ => ∃ (L : List MCk) (a14 : Option Addr) (c14 : Nat) (z : Int) (g : Int), kJ = L.length + 1 ∧ sJ 12 = .int .i64 z ∧ sJ 13 = .int .i64 g ∧ sJ 14 = .slice a14 L.length c14 ∧ sJ 3 = s37 3 ∧ OldB [] w wJ ∧ Hid (InS k L g z) ∧ (0 ≤ z ∧ z ≤ 1000000) ∧ (0 ≤ g ∧ g ≤ 100000) ∧ L.length ≤ 30 ∧ Cells wJ B3 [.int .i64 k.new, .int .i64 k.wear.lo, .int .i64 k.wear.hi, .slice a k.steps.length c] ∧ Own MCk.cs 3 74 NB wJ (Value.slice a14 L.length c14) L ∧ NB ≤ wJ.heap.size) ⟨cs, a91, c91, z, hn, rfl, (by first | exact sl12 | (rw [sl12]; go_num) | (rw [sl12]; rfl)), (by first | exact sl13 | (rw [sl13]; go_num) | (rw [sl13]; rfl)), (by first | exact sl14 | (rw [sl14]; go_num) | (rw [sl14]; rfl)), rfl, HB.out, hid (by unfold InS; rw [HA.out]; exact ⟨rfl, hz2.1, hz2.2⟩), ⟨by omega, by omega⟩, ⟨by omega, by omega⟩, hl30, kb3, hO', hNB0⟩ ?_
    clear sl12 sl13 sl14 kb3 kb5 kb8 kb10 HB; rintro kJ s38 w39 ⟨L, a14, c14, z, g, rfl, sl12, sl13, sl14, e3, HB', HI, hzb, hgb, hL3, k3x, hO14, hNBw⟩; replace sl3 := e3.trans sl3; clear e3; have HB := hid HB'; clear HB'; have kb3 := k3x; clear k3x; have qb3 := kb3.1
    repeat ((fail_if_success refine stp ?_); with_reducible go_step)
    refine region_F ?_
    iterate 3 refine pl ?_
    refine listF_abs (fun s40 z' => ?_); replace sl3 := gs 3 z' sl3; replace sl12 := gs 12 z' sl12; replace sl13 := gs 13 z' sl13; replace sl14 := gs 14 z' sl14; have sl94 := gu 94 z'; clear z'; refine listF_nil ?_
    repeat ((fail_if_success refine stp ?_); with_reducible go_step)
    refine cond_E sl94 (by decide) ?_ ?_ <;> (clear sl94; intro h94 sl94)
    ·skip
     have hLne : L ≠ [] := fun e => by rw [e] at h94; simp at h94
     repeat ((fail_if_success refine stp ?_); with_reducible go_step)
     refine region_F ?_; refine pl ?_; refine listF_abs (fun s41 z' => ?_); replace sl3 := gs 3 z' sl3; replace sl12 := gs 12 z' sl12; replace sl13 := gs 13 z' sl13; replace sl14 := gs 14 z' sl14; have sl15 := gu 15 z'; clear z' sl94; refine listF_nil ?_
     repeat ((fail_if_success refine stp ?_); with_reducible go_step)
     refine region_F ?_; refine pl ?_; refine listF_abs (fun s42 z' => ?_); replace sl3 := gs 3 z' sl3; replace sl12 := gs 12 z' sl12; replace sl13 := gs 13 z' sl13; replace sl14 := gs 14 z' sl14; replace sl15 := gs 15 z' sl15; have sl16 := gu 16 z'; clear z'; refine listF_nil ?_
     repeat ((fail_if_success refine stp ?_); with_reducible go_step)
     have hc1_3 := hid sl3; have hc1_12 := hid sl12; have hc1_13 := hid sl13; have hc1_14 := hid sl14; refine loop_F (n := 214) (fun kJ sJ wJ => ∃ (i : Nat), kJ = L.length - i ∧ sJ 15 = .int .i64 (upH L i) ∧ sJ 16 = .int .i64 (i : Int) ∧ sJ 3 = s42 3 ∧ sJ 12 = s42 12 ∧ sJ 13 = s42 13 ∧ sJ 14 = s42 14 ∧ OldB [] w39 wJ ∧ i ≤ L.length) ⟨0, rfl, (by first | exact sl15 | (rw [sl15]; go_num) | (rw [sl15]; rfl)), (by first | exact sl16 | (rw [sl16]; go_num) | (rw [sl16]; rfl)), rfl, rfl, rfl, rfl, OldB.refl _ _, Nat.zero_le _⟩ ?_; clear sl15 sl16; rintro kJ s43 w44 ⟨i, rfl, sl15, sl16, e3, e12, e13, e14, hb45, hil⟩; replace sl3 := e3.trans sl3; clear e3; replace sl12 := e12.trans sl12; clear e12; replace sl13 := e13.trans sl13; clear e13; replace sl14 := e14.trans sl14; clear e14; have hoJ := hb45; clear qb3; replace kb3 := kb3.oldB hb45 (by first | (simp; done) | (simp; omega)); replace hNBw := Nat.le_trans hNBw hb45.size; replace hO14 := Own.oldB hO14 hb45 (fun g hg => by have n0 := (World.ownsRow.lt hO14 g hg).1; first | (simp; done) | (simp; omega))
     replace HB := hid (HB.out.more hb45 (by simp; try omega)); clear hb45; have qb3 := kb3.1; have HoJ := hid hoJ; clear hoJ; have HL46 := HoJ; clear HoJ
     repeat ((fail_if_success refine stp ?_); with_reducible go_step)
     refine region_F ?_
     iterate 4 refine pl ?_
     refine listF_abs (fun s47 z' => ?_); replace sl3 := gs 3 z' sl3; replace sl12 := gs 12 z' sl12; replace sl13 := gs 13 z' sl13; replace sl14 := gs 14 z' sl14; replace sl15 := gs 15 z' sl15; replace sl16 := gs 16 z' sl16; have sl98 := gu 98 z'; clear z'; refine listF_nil ?_
     repeat ((fail_if_success refine stp ?_); with_reducible go_step)
     refine cond_E sl98 (by decide) ?_ ?_ <;> (clear sl98; intro h98 sl98)
     ·skip
      have hi1 : i < L.length := by simpa using h98
      have hii : (i : Int) < L.length := by omega
      obtain ⟨b, off, hae, hbs, c0, c1, c2⟩ := RdCks.ne (Own.rd' (f := MCk.cs) (m := 3) (fun _ => rfl) hO14 rfl) hi1; subst hae; obtain ⟨q, hq⟩ : ∃ q, L[i].hour = q := ⟨_, rfl⟩; rw [hq] at c0; have Hq := hid (show upH L (i + 1) = if upH L i < q then q else upH L i by rw [upH_succ hi1, hq]; split <;> omega); clear hq
      repeat ((fail_if_success refine stp ?_); with_reducible go_step)
      refine region_F ?_
      iterate 8 refine pl ?_
      refine listF_abs (fun s48 z' => ?_); replace sl3 := gs 3 z' sl3; replace sl12 := gs 12 z' sl12; replace sl13 := gs 13 z' sl13; replace sl14 := gs 14 z' sl14; replace sl15 := gu 15 z'; replace sl16 := gs 16 z' sl16; clear z' sl98; refine listF_nil ?_
      repeat ((fail_if_success refine stp ?_); with_reducible go_step)
      refine region_F ?_
      iterate 3 refine pl ?_
      refine listF_abs (fun s49 z' => ?_); replace sl3 := gs 3 z' sl3; replace sl12 := gs 12 z' sl12; replace sl13 := gs 13 z' sl13; replace sl14 := gs 14 z' sl14; replace sl15 := gs 15 z' sl15; replace sl16 := gu 16 z'; clear z'; refine listF_nil ?_
      repeat ((fail_if_success refine stp ?_); with_reducible go_step)
      refine ⟨_, _, rfl, ?_, i + 1, rfl, (by rw [sl15]; exact congrArg _ Hq.out.symm), (by first | (with_reducible exact sl16) | (rw [sl16]; (with_reducible go_num); done) | (rw [sl16, IntWalk.i64_in] <;> first | ((with_reducible go_num); done) | omega) | (rw [sl16]; go_num; done) | (rw [sl16]; simp; done) | (rw [sl16]; simp; omega)), (sl3.trans hc1_3.out.symm), (sl12.trans hc1_12.out.symm), (sl13.trans hc1_13.out.symm), (sl14.trans hc1_14.out.symm), HL46.out, by omega⟩
      omega
     ·skip
      have hiL : i = L.length := by have h := h98; simp at h; omega
      repeat ((fail_if_success refine stp ?_); with_reducible go_step)
      clear HL46; clear hc1_3 hc1_12 hc1_13 hc1_14; refine region_F ?_; obtain ⟨g2, hg2⟩ : ∃ z, lastH L = z := ⟨_, rfl⟩; rw [hiL, upH_all, hg2] at sl15; obtain ⟨tl, th, P1, P2, bl, hT, hP1, hP2, p1, p2, ⟨⟨t1, t2⟩, t3, t4⟩, ⟨d1, d2, d3⟩, p3, p4, p5, p6, pAll, pIn, pLt⟩ := back_step HI.out hLne hg2; have HT := hid hT; have HP1 := hid hP1; have HP2 := hid hP2; have PAll := hid pAll; have PIn := hid pIn; have PLt := hid pLt; clear hT hP1 hP2 pAll pIn pLt hg2; have cb3_0 := kb3.cell 0 rfl; have cb3_1 := kb3.cell 1 rfl; have cb3_2 := kb3.cell 2 rfl; have cb3_3 := kb3.cell 3 rfl
      iterate 3 refine pl ?_
      refine listF_step rfl (fun K' hK => ?_); unfold opF; go_simp; refine (qnow_v k a c a14 c14 L g2 tl th 0 _ HT.out hN hsl (Rd.oldB HR.out HB.out (by simp)) (Own.rd' (f := MCk.cs) (m := 3) (fun _ => rfl) hO14 rfl) (by omega)).mono ?_; rintro e w50 ⟨rfl, hb51⟩; refine ⟨_, rfl, hK _ _ ?_⟩; clear hK K'; clear cb3_0 cb3_1 cb3_2 cb3_3; clear qb3; replace kb3 := kb3.at hb51; replace hNBw := Nat.le_trans hNBw hb51.size; replace hO14 := Own.at hO14 hb51; replace HB := hid (HB.out.below hb51); clear hb51; have qb3 := kb3.1
      iterate 3 refine pl ?_
      refine pa (fun w52 B17 hB kb17' hb53 => ?_); have gb17 := HB.out.gB hB; have ob3_b17 := oB qb3 hB
      have nhO14_b17 : ∀ g, (Value.slice a14 L.length c14).ownBlock = some g → g < B17 := fun g hg => by have := (World.ownsRow.lt hO14 g hg).2; omega
      have eb17 := eB hB; clear hB; clear qb3; replace kb3 := kb3.at hb53; replace hNBw := Nat.le_trans hNBw hb53.size; replace hO14 := Own.at hO14 hb53; replace HB := hid (HB.out.below hb53); clear hb53; have qb3 := kb3.1; have kb17 := kb17'; clear kb17'; have qb17 := kb17.1; have cb17_0 := kb17.cell 0 rfl; have cb17_1 := kb17.cell 1 rfl; have zb17 := kb17.2.2; refine pl ?_; refine listF_absw (fun w54 hw' => ?_); have kb17' := cells_of hw' (Cells.set (i := 1) (Cells.set (i := 0) (kb17)))
      (try simp only [vC, List.set_cons_zero, List.set_cons_succ] at kb17')
      have hb55 : OldB [B17] w52 w54 := oldset hw'; clear hw'; clear cb17_0 cb17_1 zb17; clear qb3 qb17; replace kb17 := kb17'; replace kb3 := kb3.oldB hb55 (by first | (simp; done) | (simp; omega)); replace hNBw := Nat.le_trans hNBw hb55.size; replace hO14 := Own.oldB hO14 hb55 (fun g hg => by have n0 := (World.ownsRow.lt hO14 g hg).1; have nb17 := nhO14_b17 g hg; first | (simp; done) | (simp; omega)); replace HB := hid (HB.out.more hb55 (by simp; try omega)); clear hb55; have qb3 := kb3.1; have qb17 := kb17.1; clear kb17'; refine pl ?_; refine listF_abs (fun s56 z' => ?_); replace sl3 := gs 3 z' sl3; replace sl12 := gs 12 z' sl12; replace sl13 := gs 13 z' sl13; replace sl14 := gs 14 z' sl14; replace sl15 := gs 15 z' sl15; have sl17 := gu 17 z'; have sl18 := gu 18 z'; clear z' sl16 sl98; refine listF_nil ?_
      repeat ((fail_if_success refine stp ?_); with_reducible go_step)
      refine region_F ?_; refine pl ?_; refine pl ?_; refine listF_abs (fun s57 z' => ?_); replace sl3 := gs 3 z' sl3; replace sl12 := gs 12 z' sl12; replace sl13 := gs 13 z' sl13; replace sl14 := gs 14 z' sl14; replace sl15 := gs 15 z' sl15; replace sl17 := gs 17 z' sl17; have sl116 := gu 116 z'; clear z' sl18; refine listF_nil ?_
      repeat ((fail_if_success refine stp ?_); with_reducible go_step)
      refine cond_f ?_
      repeat ((fail_if_success refine stp ?_); with_reducible go_step)
      refine region_F ?_; have wg : IntKind.i64.wrap (g - g2) = g - g2 := IntWalk.i64_in _ (by omega)
      iterate 4 refine pl ?_
      refine listF_abs (fun s58 z' => ?_); replace sl3 := gs 3 z' sl3; replace sl12 := gs 12 z' sl12; replace sl14 := gs 14 z' sl14; replace sl15 := gs 15 z' sl15; replace sl17 := gs 17 z' sl17; have sl19 := gu 19 z'; clear z' sl13 sl116; refine listF_nil ?_
      repeat ((fail_if_success refine stp ?_); with_reducible go_step)
      have wP1 : IntKind.i64.wrap ((g - g2) * k.wear.lo) = P1 := by rw [HP1.out]; exact IntWalk.i64_in _ (by omega)
      have wP2 : IntKind.i64.wrap ((g - g2) * k.wear.hi) = P2 := by rw [HP2.out]; exact IntWalk.i64_in _ (by omega)
      have wz1 : IntKind.i64.wrap (z + P1) = z + P1 := IntWalk.i64_in _ (by omega); have wz2 : IntKind.i64.wrap (z + P2) = z + P2 := IntWalk.i64_in _ (by omega); have cb3_0 := kb3.cell 0 rfl; have cb3_1 := kb3.cell 1 rfl; have cb3_2 := kb3.cell 2 rfl; have cb3_3 := kb3.cell 3 rfl; have cb17_0 := kb17.cell 0 rfl; have cb17_1 := kb17.cell 1 rfl; refine regionR_F [] [] [] [.q [], .q [], .q [], .q [], .q [], .q [], .q [], .q [], .q [], .q [], .q [], .q [], .q [], .q [], .q [], .q [], .q [], .q [], .q [], .q [], .q [], .q []] [?v32_0, ?v32_1, ?v32_2, ?v32_3, ?v32_4, ?v32_5, ?v32_6, ?v32_7, ?v32_8, ?v32_9, ?v32_10, ?v32_11, ?v32_12, ?v32_13, ?v32_14, ?v32_15, ?v32_16, ?v32_17, ?v32_18, ?v32_19, ?v32_20, ?v32_21] [fun _ => [], fun _ => [], fun _ => [], fun _ => [], fun _ => [], fun _ => [], fun _ => [], fun _ => [], fun _ => [], fun _ => [], fun _ => [], fun _ => [], fun _ => [], fun _ => [], fun _ => [], fun _ => [], fun _ => [], fun _ => [], fun _ => [], fun _ => [], fun _ => [], fun _ => []] (by kernel_rfl) (by kernel_rfl) (by kernel_rfl) (by kernel_rfl) (by kernel_rfl) (by first | exact List.nodup_nil | exact List.nodup_singleton _ | (simp; done) | (simp; omega)) bc_nil ?walk32 ?dep32
      case walk32 =>
       iterate 22 refine rq ?_
       refine walkR_nil (fun X hX w59 hwz hcz => ?_); clear hX hcz
       (try clear X)
       skip; have hb60 := hwz.unDrew; clear hwz; clear cb17_0 cb17_1 cb3_0 cb3_1 cb3_2 cb3_3; clear qb3 qb17; replace kb3 := kb3.oldB hb60 (by first | (simp; done) | (simp; omega)); replace kb17 := kb17.oldB hb60 (by first | (simp; done) | (simp; omega)); replace hNBw := Nat.le_trans hNBw hb60.size; replace hO14 := Own.oldB hO14 hb60 (fun g hg => by have n0 := (World.ownsRow.lt hO14 g hg).1; have nb17 := nhO14_b17 g hg; first | (simp; done) | (simp; omega)); replace HB := hid (HB.out.more hb60 (by simp; try omega)); clear hb60; have qb3 := kb3.1; have qb17 := kb17.1; refine listF_abs (fun s61 z' => ?_); replace sl3 := gs 3 z' sl3; replace sl12 := gs 12 z' sl12; replace sl14 := gs 14 z' sl14; replace sl15 := gs 15 z' sl15; replace sl17 := gs 17 z' sl17; have sl20 := gu 20 z'; have sl21 := gu 21 z'; clear z' sl19; refine listF_nil ?_
       repeat ((fail_if_success refine stp ?_); with_reducible go_step)
       refine region_F ?_; refine pl ?_; refine pl ?_; refine listF_abs (fun s62 z' => ?_); replace sl3 := gs 3 z' sl3; replace sl14 := gs 14 z' sl14; replace sl15 := gs 15 z' sl15; replace sl17 := gs 17 z' sl17; replace sl20 := gs 20 z' sl20; replace sl21 := gs 21 z' sl21; have sl141 := gu 141 z'; clear z' sl12; refine listF_nil ?_
       repeat ((fail_if_success refine stp ?_); with_reducible go_step)
       have hj63_3 := hid sl3; have hj63_14 := hid sl14; have hj63_15 := hid sl15; have hj63_21 := hid sl21; refine cut_any (fun sJ wJ => sJ 20 = .int .i64 bl ∧ sJ 3 = s62 3 ∧ sJ 14 = s62 14 ∧ sJ 15 = s62 15 ∧ sJ 21 = s62 21 ∧ OldB [] w59 wJ) ?_ ?_
       ·skip
        have HL64 := hid (OldB.refl [] w59)
        refine cond_E sl141 (by decide) ?_ ?_ <;> (clear sl141; intro h141 sl141)
        ·skip
         repeat ((fail_if_success refine stp ?_); with_reducible go_step)
         refine region_F ?_; refine pl ?_; have cb17_0 := kb17.cell 0 rfl; have cb17_1 := kb17.cell 1 rfl; refine pl ?_; refine pl ?_; refine listF_abs (fun s65 z' => ?_); replace sl3 := gs 3 z' sl3; replace sl14 := gs 14 z' sl14; replace sl15 := gs 15 z' sl15; replace sl20 := gu 20 z'; replace sl21 := gs 21 z' sl21; clear z' sl17 sl141; refine listF_nil ?_
         repeat ((fail_if_success refine stp ?_); with_reducible go_step)
         clear cb17_0 cb17_1; exact ⟨rfl, _, rfl, (by rw [sl20, p3 (by simpa using h141)]), (sl3.trans hj63_3.out.symm), (sl14.trans hj63_14.out.symm), (sl15.trans hj63_15.out.symm), (sl21.trans hj63_21.out.symm), HL64.out⟩
        ·skip
         repeat ((fail_if_success refine stp ?_); with_reducible go_step)
         exact ⟨rfl, _, rfl, (by rw [sl20, p4 (by simpa using h141)]), (sl3.trans hj63_3.out.symm), (sl14.trans hj63_14.out.symm), (sl15.trans hj63_15.out.symm), (sl21.trans hj63_21.out.symm), HL64.out⟩
       ·skip
        clear sl17 sl20 sl141; rintro s66 w67 ⟨sl20, e3, e14, e15, e21, hb68⟩; replace sl3 := e3.trans sl3; clear e3 hj63_3; replace sl14 := e14.trans sl14; clear e14 hj63_14; replace sl15 := e15.trans sl15; clear e15 hj63_15; replace sl21 := e21.trans sl21; clear e21 hj63_21; clear qb3 qb17; replace kb3 := kb3.oldB hb68 (by first | (simp; done) | (simp; omega)); replace kb17 := kb17.oldB hb68 (by first | (simp; done) | (simp; omega)); replace hNBw := Nat.le_trans hNBw hb68.size; replace hO14 := Own.oldB hO14 hb68 (fun g hg => by have n0 := (World.ownsRow.lt hO14 g hg).1; have nb17 := nhO14_b17 g hg; first | (simp; done) | (simp; omega)); replace HB := hid (HB.out.more hb68 (by simp; try omega)); clear hb68; have qb3 := kb3.1; have qb17 := kb17.1
        repeat ((fail_if_success refine stp ?_); with_reducible go_step)
        refine region_F ?_
        iterate 3 refine pl ?_
        refine listF_abs (fun s69 z' => ?_); replace sl3 := gs 3 z' sl3; replace sl14 := gs 14 z' sl14; replace sl15 := gs 15 z' sl15; replace sl20 := gs 20 z' sl20; have sl146 := gu 146 z'; clear z' sl21; refine listF_nil ?_
        repeat ((fail_if_success refine stp ?_); with_reducible go_step)
        refine cond_f ?_
        repeat ((fail_if_success refine stp ?_); with_reducible go_step)
        refine region_F ?_
        iterate 4 refine pl ?_
        refine listF_abs (fun s70 z' => ?_); replace sl3 := gs 3 z' sl3; have sl12 := gu 12 z'; have sl13 := gu 13 z'; replace sl14 := gs 14 z' sl14; replace sl15 := gs 15 z' sl15; clear z' sl20 sl146; refine listF_nil ?_
        repeat ((fail_if_success refine stp ?_); with_reducible go_step)
        refine region_F ?_; clear kb17 qb17; refine pl ?_; refine listF_abs (fun s71 z' => ?_); replace sl3 := gs 3 z' sl3; replace sl12 := gs 12 z' sl12; replace sl13 := gs 13 z' sl13; replace sl14 := gs 14 z' sl14; replace sl15 := gs 15 z' sl15; have sl22 := gu 22 z'; clear z'; refine listF_nil ?_
        repeat ((fail_if_success refine stp ?_); with_reducible go_step)
        refine region_F ?_; obtain ⟨NB2, hNB2⟩ : ∃ n, n = w67.heap.size := ⟨_, rfl⟩
        have hNN : NB ≤ NB2 := by omega
        have hN20 : w67.heap.size ≤ NB2 := by omega
        have hN2w : NB2 ≤ w67.heap.size := by omega
        clear hNB2; refine pl ?_; refine listF_abs (fun s72 z' => ?_); replace sl3 := gs 3 z' sl3; replace sl12 := gs 12 z' sl12; replace sl13 := gs 13 z' sl13; replace sl14 := gs 14 z' sl14; replace sl15 := gs 15 z' sl15; replace sl22 := gs 22 z' sl22; have sl23 := gu 23 z'; clear z'; refine listF_nil ?_
        repeat ((fail_if_success refine stp ?_); with_reducible go_step)
        have hc2_3 := hid sl3; have hc2_12 := hid sl12; have hc2_13 := hid sl13; have hc2_14 := hid sl14; have hc2_15 := hid sl15; refine loop_F (n := 214) (fun kJ sJ wJ => ∃ (i : Nat) (a22 : Option Addr) (c22 : Nat), kJ = L.length - i ∧ sJ 22 = .slice a22 (befU L g2 i).length c22 ∧ sJ 23 = .int .i64 (i : Int) ∧ sJ 3 = s72 3 ∧ sJ 12 = s72 12 ∧ sJ 13 = s72 13 ∧ sJ 14 = s72 14 ∧ sJ 15 = s72 15 ∧ OldB [] w67 wJ ∧ i ≤ L.length ∧ Own MCk.cs 3 74 NB2 wJ (Value.slice a22 (befU L g2 i).length c22) (befU L g2 i) ∧ Apart (Value.slice a14 L.length c14) (Value.slice a22 (befU L g2 i).length c22)) ⟨0, none, 0, rfl, (by first | exact sl22 | (rw [sl22]; go_num) | (rw [sl22]; rfl)), (by first | exact sl23 | (rw [sl23]; go_num) | (rw [sl23]; rfl)), rfl, rfl, rfl, rfl, rfl, OldB.refl _ _, Nat.zero_le _, Own.nil _ _ _ _ _, (fun g hg e => by cases e)⟩ ?_; clear sl22 sl23; rintro kJ s73 w74 ⟨i, a22, c22, rfl, sl22, sl23, e3, e12, e13, e14, e15, hb75, hil, hO22, ap_hO14_hO22⟩
        replace sl3 := e3.trans sl3; clear e3; replace sl12 := e12.trans sl12; clear e12; replace sl13 := e13.trans sl13; clear e13; replace sl14 := e14.trans sl14; clear e14; replace sl15 := e15.trans sl15; clear e15; have hoJ := hb75; clear qb3; replace kb3 := kb3.oldB hb75 (by first | (simp; done) | (simp; omega)); replace hNBw := Nat.le_trans hNBw hb75.size; replace hN2w := Nat.le_trans hN2w hb75.size; replace hO14 := Own.oldB hO14 hb75 (fun g hg => by have n0 := (World.ownsRow.lt hO14 g hg).1; have nb17 := nhO14_b17 g hg; first | (simp; done) | (simp; omega)); replace HB := hid (HB.out.more hb75 (by simp; try omega)); clear hb75; have qb3 := kb3.1; have HoJ := hid hoJ; clear hoJ; have HL76 := HoJ; clear HoJ
        repeat ((fail_if_success refine stp ?_); with_reducible go_step)
        refine region_F ?_
        iterate 4 refine pl ?_
        refine listF_abs (fun s77 z' => ?_); replace sl3 := gs 3 z' sl3; replace sl12 := gs 12 z' sl12; replace sl13 := gs 13 z' sl13; replace sl14 := gs 14 z' sl14; replace sl15 := gs 15 z' sl15; replace sl22 := gs 22 z' sl22; replace sl23 := gs 23 z' sl23; have sl152 := gu 152 z'; clear z'; refine listF_nil ?_
        repeat ((fail_if_success refine stp ?_); with_reducible go_step)
        refine cond_E sl152 (by decide) ?_ ?_ <;> (clear sl152; intro h152 sl152)
        ·skip
         have hi1 : i < L.length := by simpa using h152
         have hii : (i : Int) < L.length := by omega
         obtain ⟨b, off, hae, hbs, c0, c1, c2⟩ := RdCks.ne (Own.rd' (f := MCk.cs) (m := 3) (fun _ => rfl) hO14 rfl) hi1; subst hae; obtain ⟨y, hy⟩ : ∃ y, L[i] = y := ⟨_, rfl⟩; rw [hy] at c0 c1 c2; have hyA := PAll.out y (by rw [← hy]; exact List.getElem_mem hi1); have Hy := hid hy; clear hy
         repeat ((fail_if_success refine stp ?_); with_reducible go_step)
         refine region_F ?_
         iterate 7 refine pl ?_
         refine listF_abs (fun s78 z' => ?_); replace sl3 := gs 3 z' sl3; replace sl12 := gs 12 z' sl12; replace sl13 := gs 13 z' sl13; replace sl14 := gs 14 z' sl14; replace sl15 := gs 15 z' sl15; replace sl22 := gs 22 z' sl22; replace sl23 := gs 23 z' sl23; have sl161 := gu 161 z'; clear z' sl152; refine listF_nil ?_
         repeat ((fail_if_success refine stp ?_); with_reducible go_step)
         refine cond_E sl161 (by decide) ?_ ?_ <;> (clear sl161; intro h161 sl161)
         ·skip
          have hyl : y.hour < g2 := by simpa using h161
          repeat ((fail_if_success refine stp ?_); with_reducible go_step)
          refine region_F ?_
          iterate 5 refine pl ?_
          refine pas (fun w79 B167 hB kb167' hb80 => ?_); have gb167 := HB.out.gB hB; have lHL76_b167 := HL76.out.gB hB; have ob3_b167 := oB qb3 hB
          have nhO14_b167 : ∀ g, (Value.slice (some ⟨b, off, none⟩) L.length c14).ownBlock = some g → g < B167 := fun g hg => by have := (World.ownsRow.lt hO14 g hg).2; omega
          have nhO22_b167 : ∀ g, (Value.slice a22 (befU L g2 i).length c22).ownBlock = some g → g < B167 := fun g hg => by have := (World.ownsRow.lt hO22 g hg).2; omega
          have eb167 := eB hB; clear hB; clear qb3; replace kb3 := kb3.at hb80; replace hNBw := Nat.le_trans hNBw hb80.size; replace hN2w := Nat.le_trans hN2w hb80.size; replace HL76 := hid (HL76.out.below hb80); replace hO14 := Own.at hO14 hb80; replace hO22 := Own.at hO22 hb80; replace HB := hid (HB.out.below hb80); clear hb80; have qb3 := kb3.1; have kb167 := kb167'; clear kb167'; have qb167 := kb167.1
          have ab3 : (Value.slice a22 (befU L g2 i).length c22).ownBlock ≠ some B3 := fun e => by have n0 := (World.ownsRow.lt hO22 B3 e).1; omega
          have ab167 : (Value.slice a22 (befU L g2 i).length c22).ownBlock ≠ some B167 := fun e => by have n0 := (World.ownsRow.lt hO22 B167 e).1; have n9 := nhO22_b167 B167 e; omega
          have hzz := HB.out.size; refine listF_step rfl (fun K' hK => ?_); refine opF_app (d := 168) rfl (by decide) (.tmp 162) (.tmp 167) _ rfl 74 i0 _ 24 Try.underlying33 hi0 hz0 hy0 hx0 rfl (by decide) (fun _ => rfl) ck_one NB2 (Value.slice a22 (befU L g2 i).length c22) (befU L g2 i) [y] (some ⟨B167, 0, none⟩) 1 (by go_simp) (by go_simp) hO22 (Cells.rd (f := MCk.cs) (m := 3) (l := [y]) (fun _ => rfl) kb167) (by unfold maxLen; have := befU_le (L := L) (g := g2) (i := i); simp; omega) (by have := befU_le (L := L) (g := g2) (i := i); simp; omega) (by omega) (fun v168 w81 hO' hG hV => hK _ _ ?_); clear hK K' hzz; clear qb3 qb167; replace kb3 := kb3.grown hG ab3; clear ab3; replace kb167 := kb167.grown hG ab167; clear ab167; have ap' := Apart.app hO14 ap_hO14_hO22 hV; replace hO14 := Own.grown hO14 hG ap_hO14_hO22; clear ap_hO14_hO22; have ap_hO14_hO22 := ap'; clear ap'; replace hNBw := Nat.le_trans hNBw hG.size
          replace hN2w := Nat.le_trans hN2w hG.size; replace HL76 := hid (HL76.out.grown hG (fun k hk => .inl (by have := (World.ownsRow.lt hO22 k hk).1; omega))); replace HB := hid (HB.out.grown hG (fun k hk => .inl (by have := (World.ownsRow.lt hO22 k hk).1; omega))); clear hO22; have hO22 := hO'; clear hO' hG hV; clear nhO22_b167; have qb3 := kb3.1; have qb167 := kb167.1; rw [← befU_yes hi1 Hy.out hyl] at hO22; obtain ⟨a22', c22', rfl, hr9, hn9⟩ := Own.slice (f := MCk.cs) (m := 3) (fun _ => rfl) hO22; clear hr9 hn9; refine pl ?_; refine listF_abs (fun s82 z' => ?_); replace sl3 := gs 3 z' sl3; replace sl12 := gs 12 z' sl12; replace sl13 := gs 13 z' sl13; replace sl14 := gs 14 z' sl14; replace sl15 := gs 15 z' sl15; replace sl22 := gu 22 z'; replace sl23 := gs 23 z' sl23; clear z' sl161; refine listF_nil ?_
          repeat ((fail_if_success refine stp ?_); with_reducible go_step)
          refine region_F ?_
          iterate 3 refine pl ?_
          refine listF_abs (fun s83 z' => ?_); replace sl3 := gs 3 z' sl3; replace sl12 := gs 12 z' sl12; replace sl13 := gs 13 z' sl13; replace sl14 := gs 14 z' sl14; replace sl15 := gs 15 z' sl15; replace sl22 := gs 22 z' sl22; replace sl23 := gu 23 z'; clear z'; refine listF_nil ?_
          repeat ((fail_if_success refine stp ?_); with_reducible go_step)
          refine ⟨_, _, rfl, ?_, i + 1, a22', c22', rfl, sl22, (by first | (with_reducible exact sl23) | (rw [sl23]; (with_reducible go_num); done) | (rw [sl23, IntWalk.i64_in] <;> first | ((with_reducible go_num); done) | omega) | (rw [sl23]; go_num; done) | (rw [sl23]; simp; done) | (rw [sl23]; simp; omega)), (sl3.trans hc2_3.out.symm), (sl12.trans hc2_12.out.symm), (sl13.trans hc2_13.out.symm), (sl14.trans hc2_14.out.symm), (sl15.trans hc2_15.out.symm), HL76.out, by omega, hO22, ap_hO14_hO22⟩
          omega
         ·skip
          have hyl : ¬ y.hour < g2 := by simpa using h161
          have hyp := hyA.2.1 (by have := hyA.1; omega); have Hyv := hid hyA.2.2; rw [hyp] at c2; clear hyp hyA
          repeat ((fail_if_success refine stp ?_); with_reducible go_step)
          have cb3_0 := kb3.cell 0 rfl; have cb3_1 := kb3.cell 1 rfl; have cb3_2 := kb3.cell 2 rfl; have cb3_3 := kb3.cell 3 rfl; refine regionR_F [] [] [] [.q [], .q [], .q [], .q [], .q [], .q [], .q [], .q [], .q [], .q [], .q [], .q [], .q [], .q []] [?v33_0, ?v33_1, ?v33_2, ?v33_3, ?v33_4, ?v33_5, ?v33_6, ?v33_7, ?v33_8, ?v33_9, ?v33_10, ?v33_11, ?v33_12, ?v33_13] [fun _ => [], fun _ => [], fun _ => [], fun _ => [], fun _ => [], fun _ => [], fun _ => [], fun _ => [], fun _ => [], fun _ => [], fun _ => [], fun _ => [], fun _ => [], fun _ => []] (by kernel_rfl) (by kernel_rfl) (by kernel_rfl) (by kernel_rfl) (by kernel_rfl) (by first | exact List.nodup_nil | exact List.nodup_singleton _ | (simp; done) | (simp; omega)) bc_nil ?walk33 ?dep33
          case walk33 =>
           iterate 12 refine rq ?_
           refine walkR_q (by rfl) (fun X hX wq hwq hrq => ?_) ?_
           · obtain ⟨hcq, hfq⟩ := hwq.b0
             clear hrq; go_simp
             (with_reducible exact (rneeded_any k a c y.volt _ (Rd.oldB HR.out (HB.out.more hwq.unDrew (by simp; try omega)) (by simp)) HK.out Hyv.out))
           refine rq ?_; refine walkR_nil (fun X hX w84 hwz hcz => ?_); clear hX hcz
           (try clear X)
           skip; have hb85 := hwz.unDrew; clear hwz; clear cb3_0 cb3_1 cb3_2 cb3_3; clear qb3; replace kb3 := kb3.oldB hb85 (by first | (simp; done) | (simp; omega)); replace hNBw := Nat.le_trans hNBw hb85.size; replace hN2w := Nat.le_trans hN2w hb85.size; replace HL76 := hid (HL76.out.more hb85 (by simp; try omega)); replace hO14 := Own.oldB hO14 hb85 (fun g hg => by have n0 := (World.ownsRow.lt hO14 g hg).1; have nb17 := nhO14_b17 g hg; first | (simp; done) | (simp; omega)); replace hO22 := Own.oldB hO22 hb85 (fun g hg => by have n0 := (World.ownsRow.lt hO22 g hg).1; first | (simp; done) | (simp; omega)); replace HB := hid (HB.out.more hb85 (by simp; try omega)); clear hb85; have qb3 := kb3.1; refine pl ?_; refine listF_abs (fun s86 z' => ?_); replace sl3 := gs 3 z' sl3; replace sl12 := gs 12 z' sl12; replace sl13 := gs 13 z' sl13; replace sl14 := gs 14 z' sl14; replace sl15 := gs 15 z' sl15; replace sl22 := gs 22 z' sl22
           replace sl23 := gs 23 z' sl23; have sl183 := gu 183 z'; clear z' sl161; refine listF_nil ?_
           repeat ((fail_if_success refine stp ?_); with_reducible go_step)
           refine cond_f ?_
           repeat ((fail_if_success refine stp ?_); with_reducible go_step)
           refine region_F ?_
           iterate 3 refine pl ?_
           refine listF_abs (fun s87 z' => ?_); replace sl3 := gs 3 z' sl3; replace sl12 := gs 12 z' sl12; replace sl13 := gs 13 z' sl13; replace sl14 := gs 14 z' sl14; replace sl15 := gs 15 z' sl15; replace sl22 := gs 22 z' sl22; replace sl23 := gu 23 z'; clear z' sl183; refine listF_nil ?_
           repeat ((fail_if_success refine stp ?_); with_reducible go_step)
           refine ⟨_, _, rfl, ?_, i + 1, a22, c22, rfl, (by rw [befU_no hi1 Hy.out hyl]; exact sl22), (by first | (with_reducible exact sl23) | (rw [sl23]; (with_reducible go_num); done) | (rw [sl23, IntWalk.i64_in] <;> first | ((with_reducible go_num); done) | omega) | (rw [sl23]; go_num; done) | (rw [sl23]; simp; done) | (rw [sl23]; simp; omega)), (sl3.trans hc2_3.out.symm), (sl12.trans hc2_12.out.symm), (sl13.trans hc2_13.out.symm), (sl14.trans hc2_14.out.symm), (sl15.trans hc2_15.out.symm), HL76.out, by omega, (by rw [befU_no hi1 Hy.out hyl]; exact hO22), (by rw [befU_no hi1 Hy.out hyl]; exact ap_hO14_hO22)⟩
           omega
          case dep33 =>
            iterate 14 refine dR ?_
            exact depR_nil
        ·skip
         have hiL : i = L.length := by have h := h152; simp at h; omega
         subst hiL
         repeat ((fail_if_success refine stp ?_); with_reducible go_step)
         clear HL76; clear hc2_3 hc2_12 hc2_13 hc2_14 hc2_15; refine region_F ?_; refine pl ?_; refine pl ?_; refine listF_abs (fun s88 z' => ?_); replace sl3 := gs 3 z' sl3; replace sl12 := gs 12 z' sl12; replace sl13 := gs 13 z' sl13; replace sl14 := gu 14 z'; clear z' sl15 sl22 sl23 sl152; refine listF_nil ?_
         repeat ((fail_if_success refine stp ?_); with_reducible go_step)
         rw [befU_all] at hO22 sl14; refine ⟨_, _, rfl, ?_, (beforeC L g2), a22, c22, bl, g2, rfl, (by first | (with_reducible exact sl12) | (rw [sl12]; (with_reducible go_num); done) | (rw [sl12, IntWalk.i64_in] <;> first | ((with_reducible go_num); done) | omega) | (rw [sl12]; go_num; done) | (rw [sl12]; simp; done) | (rw [sl12]; simp; omega)), (by first | (with_reducible exact sl13) | (rw [sl13]; (with_reducible go_num); done) | (rw [sl13, IntWalk.i64_in] <;> first | ((with_reducible go_num); done) | omega) | (rw [sl13]; go_num; done) | (rw [sl13]; simp; done) | (rw [sl13]; simp; omega)), (by first | (with_reducible exact sl14) | (rw [sl14]; (with_reducible go_num); done) | (rw [sl14, IntWalk.i64_in] <;> first | ((with_reducible go_num); done) | omega) | (rw [sl14]; go_num; done) | (rw [sl14]; simp; done) | (rw [sl14]; simp; omega)), (sl3.trans hc0_3.out.symm), HB.out, PIn, ⟨p6, by omega⟩, ⟨d3, by omega⟩, (by have := PLt.out; omega), kb3, (Own.base hO22 hNN), hNBw⟩
         (have := PLt.out; omega)
      case dep32 =>
        iterate 22 refine dR ?_
        exact depR_nil
    ·skip
     have hL0 : L = [] := by have h := h94; simp at h; exact h
     subst hL0; obtain ⟨Q1, Q2, hQ1, hQ2, q1, q2, q5, q6, qn⟩ := back_end HI.out
     have wQ1 : IntKind.i64.wrap (g * k.wear.lo) = Q1 := by rw [hQ1]; exact IntWalk.i64_in _ (by omega)
     have wQ2 : IntKind.i64.wrap (g * k.wear.hi) = Q2 := by rw [hQ2]; exact IntWalk.i64_in _ (by omega)
     have wn1 : IntKind.i64.wrap (k.new - Q1) = k.new - Q1 := IntWalk.i64_in _ (by omega); have wn2 : IntKind.i64.wrap (k.new - Q2) = k.new - Q2 := IntWalk.i64_in _ (by omega); clear hQ1 hQ2
     repeat ((fail_if_success refine stp ?_); with_reducible go_step)
     clear hc0_3
     by_cases z0 : z = 0
     ·skip
      have q8 : k.new - Q2 ≤ 0 := by omega
      refine region_F ?_
      iterate 3 refine pl ?_
      refine pn true ?_
      refine pn true ?_
      refine pn true ?_
      refine pn true ?_
      refine pn true ?_
      refine pn true ?_
      refine pn true ?_
      refine pn true ?_; refine pn true ?_; refine pn true ?_; refine pl ?_; refine pl ?_; refine py ?_; have cb3_0 := kb3.cell 0 rfl; have cb3_1 := kb3.cell 1 rfl; have cb3_2 := kb3.cell 2 rfl; have cb3_3 := kb3.cell 3 rfl
      iterate 9 refine py ?_
      refine pl ?_; refine pl ?_; refine listF_yes rfl rfl (by decide) ?_ (fun K' hK => ?_); (focus (go_simp; done)); unfold opF; go_simp; refine (awake_any _).mono ?_; rintro e w89 ⟨rfl, hb90⟩; refine ⟨_, rfl, hK _ _ ?_⟩; clear hK K'; clear cb3_0 cb3_1 cb3_2 cb3_3; clear qb3; replace kb3 := kb3.at hb90; replace hNBw := Nat.le_trans hNBw hb90.size; replace hO14 := Own.at hO14 hb90; replace HB := hid (HB.out.below hb90); clear hb90; have qb3 := kb3.1; refine pl ?_; refine pl ?_; refine listF_abs (fun s91 z' => ?_); have sl6 := gu 6 z'; clear z' sl3 sl12 sl13 sl14 sl94; refine listF_nil ?_
      repeat ((fail_if_success refine stp ?_); with_reducible go_step)
      refine ret_F _ (res_t Try.results10 ((getD_F (by decide)).trans sl6)) ?_; exact ⟨rfl, HB.out.toBelow⟩
     ·skip
      have q7 := q5 z0; refine region_F ?_
      iterate 3 refine pl ?_
      refine py ?_; have cb3_0 := kb3.cell 0 rfl; have cb3_1 := kb3.cell 1 rfl; have cb3_2 := kb3.cell 2 rfl; have cb3_3 := kb3.cell 3 rfl
      iterate 9 refine py ?_
      refine pl ?_; refine pl ?_
      iterate 10 refine py ?_
      refine pl ?_; refine pl ?_; refine listF_yes rfl rfl (by decide) ?_ (fun K' hK => ?_); (focus (go_simp; done)); unfold opF; go_simp; refine (awake_any _).mono ?_; rintro e w92 ⟨rfl, hb93⟩; refine ⟨_, rfl, hK _ _ ?_⟩; clear hK K'; clear cb3_0 cb3_1 cb3_2 cb3_3; clear qb3; replace kb3 := kb3.at hb93; replace hNBw := Nat.le_trans hNBw hb93.size; replace hO14 := Own.at hO14 hb93; replace HB := hid (HB.out.below hb93); clear hb93; have qb3 := kb3.1; refine pl ?_; refine pl ?_; refine listF_abs (fun s94 z' => ?_); have sl6 := gu 6 z'; clear z' sl3 sl12 sl13 sl14 sl94; refine listF_nil ?_
      repeat ((fail_if_success refine stp ?_); with_reducible go_step)
      refine ret_F _ (res_t Try.results10 ((getD_F (by decide)).trans sl6)) ?_; exact ⟨rfl, HB.out.toBelow⟩
  case dep31 =>
    iterate 16 refine dR ?_
    exact depR_nil
 ·skip
  have he1 : (er != 0) = true := by simpa using he
  have hz := asked_zero (k := k) (cs := cs) (h := (hn : Int)) (by rw [HA.out]; exact he); rw [HA.out] at hz
  obtain ⟨rfl, rfl⟩ : lo = 0 ∧ hi = 0 := by cases hz; exact ⟨rfl, rfl⟩
  clear hz; refine region_F ?_; have cb3_0 := kb3.cell 0 rfl; have cb3_1 := kb3.cell 1 rfl; have cb3_2 := kb3.cell 2 rfl; have cb3_3 := kb3.cell 3 rfl
  iterate 3 refine pl ?_
  refine listF_step rfl (fun K' hK => ?_); unfold opF; go_simp; refine (qnow_v k a c ac cc cs hn 0 0 er _ HA.out hN hsl (Rd.oldB HR.out HB.out (by simp)) (Rd.oldB HRc.out HB.out (by simp)) hlc).mono ?_; rintro e w95 ⟨rfl, hb96⟩; refine ⟨_, rfl, hK _ _ ?_⟩; clear hK K'; clear cb3_0 cb3_1 cb3_2 cb3_3 cb5_0 cb5_1; clear qb3 qb5; replace kb3 := kb3.at hb96; replace kb5 := kb5.at hb96; replace HB := hid (HB.out.below hb96); clear hb96; have qb3 := kb3.1; have qb5 := kb5.1
  iterate 3 refine pl ?_
  refine pa (fun w97 B8 hB kb8' hb98 => ?_); have gb8 := HB.out.gB hB; have ob3_b8 := oB qb3 hB; have ob5_b8 := oB qb5 hB; have eb8 := eB hB; clear hB; clear qb3 qb5; replace kb3 := kb3.at hb98; replace kb5 := kb5.at hb98; replace HB := hid (HB.out.below hb98); clear hb98; have qb3 := kb3.1; have qb5 := kb5.1; have kb8 := kb8'; clear kb8'; have qb8 := kb8.1; have cb8_0 := kb8.cell 0 rfl; have cb8_1 := kb8.cell 1 rfl; have zb8 := kb8.2.2; refine pl ?_; refine listF_absw (fun w99 hw' => ?_); have kb8' := cells_of hw' (Cells.set (i := 1) (Cells.set (i := 0) (kb8)))
  (try simp only [vC, List.set_cons_zero, List.set_cons_succ] at kb8')
  have hb100 : OldB [B8] w97 w99 := oldset hw'; clear hw'; clear cb8_0 cb8_1 zb8; clear qb3 qb5 qb8; replace kb8 := kb8'; replace kb3 := kb3.oldB hb100 (by first | (simp; done) | (simp; omega)); replace kb5 := kb5.oldB hb100 (by first | (simp; done) | (simp; omega)); replace HB := hid (HB.out.more hb100 (by simp; try omega)); clear hb100; have qb3 := kb3.1; have qb5 := kb5.1; have qb8 := kb8.1; clear kb8'; refine pl ?_; refine listF_abs (fun s101 z' => ?_); replace sl1 := gs 1 z' sl1; replace sl3 := gs 3 z' sl3; replace sl5 := gs 5 z' sl5; replace sl7 := gs 7 z' sl7; have sl8 := gu 8 z'; have sl9 := gu 9 z'; clear z'; refine listF_nil ?_
  repeat ((fail_if_success refine stp ?_); with_reducible go_step)
  refine region_F ?_; refine pl ?_; refine pl ?_; refine listF_abs (fun s102 z' => ?_); replace sl1 := gs 1 z' sl1; replace sl3 := gs 3 z' sl3; replace sl5 := gs 5 z' sl5; replace sl7 := gs 7 z' sl7; replace sl8 := gs 8 z' sl8; have sl36 := gu 36 z'; clear z' sl9; refine listF_nil ?_
  repeat ((fail_if_success refine stp ?_); with_reducible go_step)
  refine cond_t ?_
  repeat ((fail_if_success refine stp ?_); with_reducible go_step)
  refine region_F ?_; have cb8_0 := kb8.cell 0 rfl; have cb8_1 := kb8.cell 1 rfl
  iterate 4 refine pl ?_
  refine listF_yes rfl rfl (by decide) ?_ (fun K' hK => ?_); (focus (go_simp; done)); unfold opF; go_simp; refine (awake_any _).mono ?_; rintro e w103 ⟨rfl, hb104⟩; refine ⟨_, rfl, hK _ _ ?_⟩; clear hK K'; clear cb8_0 cb8_1; clear qb3 qb5 qb8; replace kb3 := kb3.at hb104; replace kb5 := kb5.at hb104; replace kb8 := kb8.at hb104; replace HB := hid (HB.out.below hb104); clear hb104; have qb3 := kb3.1; have qb5 := kb5.1; have qb8 := kb8.1; refine pl ?_; refine pl ?_; refine listF_abs (fun s105 z' => ?_); have sl6 := gu 6 z'; clear z' sl1 sl3 sl5 sl7 sl8 sl36; refine listF_nil ?_
  repeat ((fail_if_success refine stp ?_); with_reducible go_step)
  refine ret_F _ (res_t Try.results10 ((getD_F (by decide)).trans sl6)) ?_; exact ⟨rfl, HB.out.toBelow⟩

end Go.Proofs.Ytndcmmghgljinaa
