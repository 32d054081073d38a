/- MarginSuspects. -/
import Derived.Test.YtndcmmghgljinaarbY1
import Derived.Test.YtndcmmghgljinaarbR3
set_option linter.all false
namespace Go.Proofs.Ytndcmmghgljinaa

open Go.RowKit

set_option maxRecDepth 100000 in
set_option maxHeartbeats 16000000 in
theorem suspects_walk (k : Kd) (a : Option Addr) (c : Nat) (al : Option Addr) (cl : Nat) (l : List Span) (v : Int) (p : Bool) (ay : Option Addr) (cy : Nat) (y : List Int) (w : World) (hK0 : KdIn w k a) (hRl : RdSpans w al l) (hll : l.length ≤ 9223372036854775807) (hRy : RdQ w ay y) (hly : y.length ≤ 9223372036854775807) (hUy : U32 y) :
    Calls Try.prog 14 #[.agg #[.int .i64 k.new, .int .i64 k.wear.lo, .int .i64 k.wear.hi, .slice a k.steps.length c], .agg #[.slice al l.length cl, .int .i64 v, .bool p], .slice ay y.length cy] w (fun e w' => e = .returned (.bool true) ∧ Below w.heap.size w w') := by
 have HR := hid hK0.2.2; have hN := hK0.1; have hsl := hK0.2.1; clear hK0; have HRl := hid hRl; have HRy := hid hRy; have HUy := hid hUy; clear hRl hRy hUy; obtain ⟨⟨A, U, er⟩, hA⟩ : ∃ z : List Span × List Int × Int, grpRes k l v p = z := ⟨_, rfl⟩; have HA := hid hA; clear hA
 refine enter_F Try.func14 rfl Try.ntmps14 (by simp) ?_
 intro s0 hs; have sl0 : s0 0 = .agg #[.int .i64 k.new, .int .i64 k.wear.lo, .int .i64 k.wear.hi, .slice a k.steps.length c] := hs 0 (by simp); have sl1 : s0 1 = .agg #[.slice al l.length cl, .int .i64 v, .bool p] := hs 1 (by simp); have sl2 : s0 2 = .slice ay y.length cy := hs 2 (by simp); clear hs; have HB := hid (OldB.refl [] w)
 repeat ((fail_if_success refine stp ?_); with_reducible go_step)
 refine region_F ?_; refine pa (fun w1 B3 hB kb3' hb2 => ?_); have gb3 := HB.out.gB hB; have eb3 := eB hB; clear hB; replace HB := hid (HB.out.below hb2); clear hb2; have kb3 := kb3'; clear kb3'; have qb3 := kb3.1; refine pa (fun w3 B4 hB kb4' hb4 => ?_); have gb4 := HB.out.gB hB; have ob3_b4 := oB qb3 hB; have eb4 := eB hB; clear hB; clear qb3; replace kb3 := kb3.at hb4; replace HB := hid (HB.out.below hb4); clear hb4; have qb3 := kb3.1; have kb4 := kb4'; clear kb4'; have qb4 := kb4.1; refine pl ?_; refine listF_abs (fun s5 z' => ?_); replace sl2 := gs 2 z' sl2; have sl3 := gu 3 z'; have sl4 := gu 4 z'; clear z' sl0 sl1; refine listF_nil ?_
 repeat ((fail_if_success refine stp ?_); with_reducible go_step)
 refine region_F ?_; have cb3_0 := kb3.cell 0 rfl; have cb3_1 := kb3.cell 1 rfl; have cb3_2 := kb3.cell 2 rfl; have cb3_3 := kb3.cell 3 rfl; refine pl ?_; refine pl ?_; have cb4_0 := kb4.cell 0 rfl; have cb4_1 := kb4.cell 1 rfl; have cb4_2 := kb4.cell 2 rfl
 iterate 5 refine pl ?_
 refine listF_step rfl (fun K' hK => ?_); unfold opF; go_simp; refine (qgroup_v k a c al cl l v p A U er _ HA.out hN hsl (Rd.oldB HR.out HB.out (by simp)) (Rd.oldB HRl.out HB.out (by simp)) hll).mono ?_; rintro e w6 ⟨ag, cg, ah, ch, rfl, hg1, hh1, hb7⟩; have Hg1 := hid hg1; have Hh1 := hid hh1; have HLg := hid (OldB.refl [] w6); clear hg1 hh1; refine ⟨_, rfl, hK _ _ ?_⟩; clear hK K'; clear cb3_0 cb3_1 cb3_2 cb3_3 cb4_0 cb4_1 cb4_2; clear qb3 qb4; replace kb3 := kb3.at hb7; replace kb4 := kb4.at hb7; replace HB := hid (HB.out.below hb7); clear hb7; have qb3 := kb3.1; have qb4 := kb4.1
 iterate 7 refine pl ?_
 refine listF_abs (fun s8 z' => ?_); replace sl2 := gs 2 z' sl2; replace sl3 := gs 3 z' sl3; replace sl4 := gs 4 z' sl4; have sl7 := gu 7 z'; have sl8 := gu 8 z'; have sl9 := gu 9 z'; clear z'; refine listF_nil ?_
 repeat ((fail_if_success refine stp ?_); with_reducible go_step)
 by_cases he : er = 0
 ·skip
  subst he; have HG := hid (gok_of HA.out); have hl12 := HG.out.len
  have hAl : A.length ≤ 12 := by rw [HG.out.al]; exact hl12
  have hne : (A.length != l.length) = false := by simp [HG.out.al]
  have hne2 : ((A.length : Int) != l.length) = false := by simp [HG.out.al]
  have hne3 : ((A.length : Int) == l.length) = true := by simp [HG.out.al]
  refine region_F ?_; refine pl ?_; refine pl ?_; refine listF_abs (fun s9 z' => ?_); replace sl2 := gs 2 z' sl2; replace sl3 := gs 3 z' sl3; replace sl4 := gs 4 z' sl4; replace sl7 := gs 7 z' sl7; replace sl8 := gs 8 z' sl8; have sl35 := gu 35 z'; clear z' sl9; refine listF_nil ?_
  repeat ((fail_if_success refine stp ?_); with_reducible go_step)
  refine cond_f ?_
  repeat ((fail_if_success refine stp ?_); with_reducible go_step)
  refine region_F ?_; have cb3_0 := kb3.cell 0 rfl; have cb3_1 := kb3.cell 1 rfl; have cb3_2 := kb3.cell 2 rfl; have cb3_3 := kb3.cell 3 rfl; refine pl ?_; refine pl ?_; have cb4_0 := kb4.cell 0 rfl; have cb4_1 := kb4.cell 1 rfl; have cb4_2 := kb4.cell 2 rfl
  iterate 5 refine pl ?_
  refine listF_step rfl (fun K' hK => ?_); unfold opF; go_simp; refine (rgroup_v k a c al cl l v p A U 0 _ HA.out hsl (Rd.oldB HR.out HB.out (by simp)) (Rd.oldB HRl.out HB.out (by simp)) hll).mono ?_; rintro e w10 ⟨ai, ci, aj, cj, rfl, hg2, hh2, hb11⟩; clear hg2 hh2; refine ⟨_, rfl, hK _ _ ?_⟩; clear hK K'; clear cb3_0 cb3_1 cb3_2 cb3_3 cb4_0 cb4_1 cb4_2; clear qb3 qb4; replace kb3 := kb3.at hb11; replace kb4 := kb4.at hb11; replace HLg := hid (HLg.out.below hb11); replace HB := hid (HB.out.below hb11); clear hb11; have qb3 := kb3.1; have qb4 := kb4.1
  iterate 7 refine pl ?_
  refine listF_abs (fun s12 z' => ?_); replace sl2 := gs 2 z' sl2; replace sl3 := gs 3 z' sl3; replace sl4 := gs 4 z' sl4; replace sl7 := gs 7 z' sl7; replace sl8 := gs 8 z' sl8; have sl12 := gu 12 z'; clear z' sl35; refine listF_nil ?_
  repeat ((fail_if_success refine stp ?_); with_reducible go_step)
  have hj13_2 := hid sl2; have hj13_3 := hid sl3; have hj13_4 := hid sl4; have hj13_7 := hid sl7; have hj13_8 := hid sl8; refine cut_any (fun sJ wJ => sJ 87 = .bool false ∧ sJ 2 = s12 2 ∧ sJ 3 = s12 3 ∧ sJ 4 = s12 4 ∧ sJ 7 = s12 7 ∧ sJ 8 = s12 8 ∧ OldB [] w10 wJ) ?_ ?_
  ·skip
   have HL14 := hid (OldB.refl [] w10)
   cases p
   ·skip
    have hu0 := HG.out.un rfl
    have hu1 : ¬ (U.length : Int) = 0 := by omega
    have hu2 : ¬ U = [] := fun e => by rw [e] at hu0; simp at hu0
    refine region_F ?_
    iterate 3 refine pl ?_
    iterate 3 refine py ?_
    have cb4_0 := kb4.cell 0 rfl; have cb4_1 := kb4.cell 1 rfl; have cb4_2 := kb4.cell 2 rfl
    iterate 3 refine py ?_
    refine pl ?_; refine pl ?_
    iterate 3 refine py ?_
    refine pn false ?_; refine pn false ?_; refine pn false ?_; refine py ?_; refine pl ?_; refine pl ?_
    iterate 8 refine py ?_
    refine pl ?_; refine listF_abs (fun s15 z' => ?_); replace sl2 := gs 2 z' sl2; replace sl3 := gs 3 z' sl3; replace sl4 := gs 4 z' sl4; replace sl7 := gs 7 z' sl7; replace sl8 := gs 8 z' sl8; have sl87 := gu 87 z'; clear z' sl12; refine listF_nil ?_
    repeat ((fail_if_success refine stp ?_); with_reducible go_step)
    clear cb4_0 cb4_1 cb4_2; exact ⟨rfl, _, rfl, (by first | (with_reducible exact sl87) | (rw [sl87]; (with_reducible go_num); done) | (rw [sl87, IntWalk.i64_in] <;> first | ((with_reducible go_num); done) | omega) | (rw [sl87]; go_num; done) | (rw [sl87]; simp; done) | (rw [sl87]; simp; omega)), (sl2.trans hj13_2.out.symm), (sl3.trans hj13_3.out.symm), (sl4.trans hj13_4.out.symm), (sl7.trans hj13_7.out.symm), (sl8.trans hj13_8.out.symm), HL14.out⟩
   ·skip
    have hu0 := HG.out.up rfl; obtain rfl : U = [] := List.length_eq_zero_iff.1 hu0; refine region_F ?_
    iterate 3 refine pl ?_
    iterate 3 refine py ?_
    have cb4_0 := kb4.cell 0 rfl; have cb4_1 := kb4.cell 1 rfl; have cb4_2 := kb4.cell 2 rfl
    iterate 3 refine py ?_
    refine pl ?_; refine pl ?_
    iterate 7 refine py ?_
    refine pl ?_; refine pl ?_
    iterate 4 refine py ?_
    refine pn false ?_; refine pn false ?_; refine pn false ?_; refine py ?_; refine pl ?_; refine listF_abs (fun s16 z' => ?_); replace sl2 := gs 2 z' sl2; replace sl3 := gs 3 z' sl3; replace sl4 := gs 4 z' sl4; replace sl7 := gs 7 z' sl7; replace sl8 := gs 8 z' sl8; have sl87 := gu 87 z'; clear z' sl12; refine listF_nil ?_
    repeat ((fail_if_success refine stp ?_); with_reducible go_step)
    clear cb4_0 cb4_1 cb4_2; exact ⟨rfl, _, rfl, (by first | (with_reducible exact sl87) | (rw [sl87]; (with_reducible go_num); done) | (rw [sl87, IntWalk.i64_in] <;> first | ((with_reducible go_num); done) | omega) | (rw [sl87]; go_num; done) | (rw [sl87]; simp; done) | (rw [sl87]; simp; omega)), (sl2.trans hj13_2.out.symm), (sl3.trans hj13_3.out.symm), (sl4.trans hj13_4.out.symm), (sl7.trans hj13_7.out.symm), (sl8.trans hj13_8.out.symm), HL14.out⟩
  ·skip
   clear sl12; rintro s17 w18 ⟨sl87, e2, e3, e4, e7, e8, hb19⟩; replace sl2 := e2.trans sl2; clear e2 hj13_2; replace sl3 := e3.trans sl3; clear e3 hj13_3; replace sl4 := e4.trans sl4; clear e4 hj13_4; replace sl7 := e7.trans sl7; clear e7 hj13_7; replace sl8 := e8.trans sl8; clear e8 hj13_8; clear qb3 qb4; replace kb3 := kb3.oldB hb19 (by first | (simp; done) | (simp; omega)); replace kb4 := kb4.oldB hb19 (by first | (simp; done) | (simp; omega)); replace HLg := hid (HLg.out.more hb19 (by simp; try omega)); replace HB := hid (HB.out.more hb19 (by simp; try omega)); clear hb19; have qb3 := kb3.1; have qb4 := kb4.1
   repeat ((fail_if_success refine stp ?_); with_reducible go_step)
   refine cond_f ?_
   repeat ((fail_if_success refine stp ?_); with_reducible go_step)
   refine region_F ?_; have cb3_0 := kb3.cell 0 rfl; have cb3_1 := kb3.cell 1 rfl; have cb3_2 := kb3.cell 2 rfl; have cb3_3 := kb3.cell 3 rfl; refine pl ?_; refine pl ?_; have cb4_0 := kb4.cell 0 rfl; have cb4_1 := kb4.cell 1 rfl; have cb4_2 := kb4.cell 2 rfl; refine pl ?_; refine listF_step rfl (fun K' hK => ?_); unfold opF; go_simp; refine (rneeded_any k a c v _ (Rd.oldB HR.out HB.out (by simp)) HG.out.kk HG.out.vv).mono ?_; rintro e w20 ⟨rfl, hb21⟩; obtain ⟨nd, hnd⟩ : ∃ n, needed k v = n := ⟨_, rfl⟩; rw [hnd]; have Hnd := hid hnd; clear hnd; refine ⟨_, rfl, hK _ _ ?_⟩; clear hK K'; clear cb3_0 cb3_1 cb3_2 cb3_3 cb4_0 cb4_1 cb4_2; clear qb3 qb4; replace kb3 := kb3.at hb21; replace kb4 := kb4.at hb21; replace HLg := hid (HLg.out.below hb21); replace HB := hid (HB.out.below hb21); clear hb21; have qb3 := kb3.1; have qb4 := kb4.1; refine pl ?_; refine listF_abs (fun s22 z' => ?_); replace sl2 := gs 2 z' sl2; replace sl4 := gs 4 z' sl4; replace sl7 := gs 7 z' sl7; replace sl8 := gs 8 z' sl8; have sl13 := gu 13 z'; clear z' sl3 sl87
   refine listF_nil ?_
   repeat ((fail_if_success refine stp ?_); with_reducible go_step)
   refine region_F ?_; refine pl ?_; refine listF_abs (fun s23 z' => ?_); replace sl2 := gs 2 z' sl2; replace sl4 := gs 4 z' sl4; replace sl7 := gs 7 z' sl7; replace sl8 := gs 8 z' sl8; replace sl13 := gs 13 z' sl13; have sl14 := gu 14 z'; clear z'; refine listF_nil ?_
   repeat ((fail_if_success refine stp ?_); with_reducible go_step)
   have hc0_2 := hid sl2; have hc0_4 := hid sl4; have hc0_7 := hid sl7; have hc0_8 := hid sl8; have hc0_13 := hid sl13; refine loop_F (n := 235) (fun kJ sJ wJ => ∃ (i : Nat), kJ = U.length - i ∧ sJ 14 = .int .i64 (i : Int) ∧ sJ 2 = s23 2 ∧ sJ 4 = s23 4 ∧ sJ 7 = s23 7 ∧ sJ 8 = s23 8 ∧ sJ 13 = s23 13 ∧ OldB [] w20 wJ ∧ i ≤ U.length) ⟨0, rfl, (by first | exact sl14 | (rw [sl14]; go_num) | (rw [sl14]; rfl)), rfl, rfl, rfl, rfl, rfl, OldB.refl _ _, Nat.zero_le _⟩ ?_; clear sl14; rintro kJ s24 w25 ⟨i, rfl, sl14, e2, e4, e7, e8, e13, hb26, hiU⟩; replace sl2 := e2.trans sl2; clear e2; replace sl4 := e4.trans sl4; clear e4; replace sl7 := e7.trans sl7; clear e7; replace sl8 := e8.trans sl8; clear e8; replace sl13 := e13.trans sl13; clear e13; have hoJ := hb26; clear qb3 qb4; replace kb3 := kb3.oldB hb26 (by first | (simp; done) | (simp; omega)); replace kb4 := kb4.oldB hb26 (by first | (simp; done) | (simp; omega)); replace HLg := hid (HLg.out.more hb26 (by simp; try omega))
   replace HB := hid (HB.out.more hb26 (by simp; try omega)); clear hb26; have qb3 := kb3.1; have qb4 := kb4.1; have HoJ := hid hoJ; clear hoJ; have HL27 := HoJ; clear HoJ
   repeat ((fail_if_success refine stp ?_); with_reducible go_step)
   refine region_F ?_
   iterate 4 refine pl ?_
   refine listF_abs (fun s28 z' => ?_); replace sl2 := gs 2 z' sl2; replace sl4 := gs 4 z' sl4; replace sl7 := gs 7 z' sl7; replace sl8 := gs 8 z' sl8; replace sl13 := gs 13 z' sl13; replace sl14 := gs 14 z' sl14; have sl95 := gu 95 z'; clear z'; refine listF_nil ?_
   repeat ((fail_if_success refine stp ?_); with_reducible go_step)
   refine cond_E sl95 (by decide) ?_ ?_ <;> (clear sl95; intro h95 sl95)
   ·skip
    have hi : i < U.length := by simpa using h95
    have hii : (i : Int) < U.length := by omega
    obtain ⟨j, hj1, hj2⟩ := HG.out.at_ i hi
    have hj3 : (j : Int) < A.length := by omega
    have hj4 : ¬ (A.length : Int) ≤ (j : Int) := by omega
    have hj5 : ¬ (j : Int) < 0 := by omega
    obtain ⟨bU, oU, hae, hbU, -⟩ := RdInts.ne (Rd.oldB Hh1.out HLg.out (by simp)) hi; subst hae; have cAll := RdInts.all (Rd.oldB Hh1.out HLg.out (by simp)); have cI := cAll i hi; rw [hj1] at cI; have hU12 : U.length ≤ 9223372036854775807 := HG.out.ul; have hiw : IntKind.i64.wrap ((i : Int) - 1) = (i : Int) - 1 := IntWalk.i64_in _ (by omega)
    repeat ((fail_if_success refine stp ?_); with_reducible go_step)
    rcases Nat.eq_zero_or_pos i with h0 | h0
    ·skip
     subst h0; clear hiw cAll; rw [Nat.add_zero] at cI
     by_cases hU1 : U.length = 1
     ·skip
      have hU2 : (U.length : Int) = 1 := by omega
      have hone := HG.out.one hU1 hi j hj1 hj2; rw [Hnd.out] at hone; obtain ⟨bA, oA, rfl, hbA, cA0, cA1⟩ := RdSpans.ne (Rd.oldB Hg1.out HLg.out (by simp)) hj2; obtain ⟨q1, hq1⟩ : ∃ q, A[j].hi = q := ⟨_, rfl⟩; rw [hq1] at cA1 hone
      have hone' : ¬ nd ≤ q1 := by omega
      clear hq1 hone; have cb3_0 := kb3.cell 0 rfl; have cb3_1 := kb3.cell 1 rfl; have cb3_2 := kb3.cell 2 rfl; have cb3_3 := kb3.cell 3 rfl; have cb4_0 := kb4.cell 0 rfl; have cb4_1 := kb4.cell 1 rfl; have cb4_2 := kb4.cell 2 rfl; refine regionR_F [] [] [] [.q [], .q [], .q [], .q [], .q [], .q [], .q [], .q [], .q [], .q [], .q [], .q [], .q [], .q [], .q [], .q [], .q [], .q [], .no, .no, .no, .no, .no, .no, .no, .no, .no, .no, .q [], .q [], .q [], .q [], .q [], .q [], .q [], .q [], .q [], .q [], .q [], .q [], .q [], .q [], .q [], .q [], .q [], .q [], .q []] [?v34_0, ?v34_1, ?v34_2, ?v34_3, ?v34_4, ?v34_5, ?v34_6, ?v34_7, ?v34_8, ?v34_9, ?v34_10, ?v34_11, ?v34_12, ?v34_13, ?v34_14, ?v34_15, ?v34_16, ?v34_17, fun _ => undef, fun _ => undef, fun _ => undef, fun _ => undef, fun _ => undef, fun _ => undef, fun _ => undef, fun _ => undef, fun _ => undef, fun _ => undef, ?v34_28, ?v34_29, ?v34_30, ?v34_31, ?v34_32, ?v34_33, ?v34_34, ?v34_35, ?v34_36, ?v34_37, ?v34_38, ?v34_39, ?v34_40, ?v34_41, ?v34_42, ?v34_43, ?v34_44, ?v34_45, ?v34_46] [fun _ => [], fun _ => [], fun _ => [], fun _ => [], fun _ => [], fun _ => [], fun _ => [], fun _ => [], fun _ => [], fun _ => [], fun _ => [], fun _ => [], fun _ => [], fun _ => [], fun _ => [], fun _ => [], fun _ => [], fun _ => [], fun _ => [], fun _ => [], fun _ => [], fun _ => [], fun _ => [], fun _ => [], fun _ => [], fun _ => [], fun _ => [], fun _ => [], fun _ => [], fun _ => [], fun _ => [], fun _ => [], fun _ => [], fun _ => [], fun _ => [], fun _ => [], fun _ => [], fun _ => [], fun _ => [], fun _ => [], fun _ => [], fun _ => [], fun _ => [], fun _ => [], fun _ => [], fun _ => [], fun _ => []] (by kernel_rfl) (by kernel_rfl) (by kernel_rfl) (by kernel_rfl) (by kernel_rfl) (by first | exact List.nodup_nil | exact List.nodup_singleton _ | (simp; done) | (simp; omega)) bc_nil ?walk34 ?dep34
      case walk34 =>
       iterate 6 refine rq ?_
       iterate 7 refine rqy ?_
       refine rq ?_; refine rq ?_
       iterate 3 refine rqy ?_
       refine walkR_no (b' := false) (by rfl) (by rfl) (by decide) (fun X hX => ?_) (by rfl) ?_
       · go_simp
       refine walkR_no (b' := false) (by rfl) (by rfl) (by decide) (fun X hX => ?_) (by rfl) ?_
       · go_simp
       refine walkR_no (b' := false) (by rfl) (by rfl) (by decide) (fun X hX => ?_) (by rfl) ?_
       · go_simp
       refine walkR_no (b' := false) (by rfl) (by rfl) (by decide) (fun X hX => ?_) (by rfl) ?_
       · go_simp
       refine walkR_no (b' := false) (by rfl) (by rfl) (by decide) (fun X hX => ?_) (by rfl) ?_
       · go_simp
       refine walkR_no (b' := false) (by rfl) (by rfl) (by decide) (fun X hX => ?_) (by rfl) ?_
       · go_simp
       refine walkR_no (b' := false) (by rfl) (by rfl) (by decide) (fun X hX => ?_) (by rfl) ?_
       · go_simp
       refine walkR_no (b' := false) (by rfl) (by rfl) (by decide) (fun X hX => ?_) (by rfl) ?_
       · go_simp
       refine walkR_no (b' := false) (by rfl) (by rfl) (by decide) (fun X hX => ?_) (by rfl) ?_
       · go_simp
       refine walkR_no (b' := false) (by rfl) (by rfl) (by decide) (fun X hX => ?_) (by rfl) ?_
       · go_simp
       refine rqy ?_; refine rq ?_; refine rq ?_
       iterate 15 refine rqy ?_
       refine rq ?_; refine walkR_nil (fun X hX w29 hwz hcz => ?_); clear hX hcz
       (try clear X)
       skip; have hb30 := hwz.unDrew; clear hwz; clear cb3_0 cb3_1 cb3_2 cb3_3 cb4_0 cb4_1 cb4_2; clear qb3 qb4; replace kb3 := kb3.oldB hb30 (by first | (simp; done) | (simp; omega)); replace kb4 := kb4.oldB hb30 (by first | (simp; done) | (simp; omega)); replace HLg := hid (HLg.out.more hb30 (by simp; try omega)); replace HL27 := hid (HL27.out.more hb30 (by simp; try omega)); replace HB := hid (HB.out.more hb30 (by simp; try omega)); clear hb30; have qb3 := kb3.1; have qb4 := kb4.1; refine listF_abs (fun s31 z' => ?_); replace sl2 := gs 2 z' sl2; replace sl4 := gs 4 z' sl4; replace sl7 := gs 7 z' sl7; replace sl8 := gs 8 z' sl8; replace sl13 := gs 13 z' sl13; replace sl14 := gs 14 z' sl14; have sl104 := gu 104 z'; have sl105 := gu 105 z'; have sl106 := gu 106 z'; have sl107 := gu 107 z'; have sl108 := gu 108 z'; have sl109 := gu 109 z'; have sl110 := gu 110 z'; have sl113 := gu 113 z'; have sl114 := gu 114 z'; have sl115 := gu 115 z'; have sl116 := gu 116 z'; have sl117 := gu 117 z'
       have sl118 := gu 118 z'; have sl119 := gu 119 z'; have sl120 := gu 120 z'; have sl121 := gu 121 z'; have sl122 := gu 122 z'; have sl123 := gu 123 z'; have sl124 := gu 124 z'; have sl125 := gu 125 z'; have sl126 := gu 126 z'; have sl129 := gu 129 z'; have sl130 := gu 130 z'; have sl131 := gu 131 z'; have sl132 := gu 132 z'; have sl133 := gu 133 z'; have sl134 := gu 134 z'; have sl135 := gu 135 z'; have sl136 := gu 136 z'; have sl137 := gu 137 z'; have sl138 := gu 138 z'; have sl139 := gu 139 z'; have sl140 := gu 140 z'; have sl141 := gu 141 z'; have sl142 := gu 142 z'; have sl143 := gu 143 z'; have sl144 := gu 144 z'; clear z' sl95; refine listF_nil ?_
       repeat ((fail_if_success refine stp ?_); with_reducible go_step)
       refine cond_f ?_
       repeat ((fail_if_success refine stp ?_); with_reducible go_step)
       refine region_F ?_
       iterate 3 refine pl ?_
       refine listF_abs (fun s32 z' => ?_); replace sl2 := gs 2 z' sl2; replace sl4 := gs 4 z' sl4; replace sl7 := gs 7 z' sl7; replace sl8 := gs 8 z' sl8; replace sl13 := gs 13 z' sl13; replace sl14 := gu 14 z'; replace sl104 := gs 104 z' sl104; replace sl105 := gs 105 z' sl105; replace sl106 := gs 106 z' sl106; replace sl107 := gs 107 z' sl107; replace sl108 := gs 108 z' sl108; replace sl109 := gs 109 z' sl109; replace sl110 := gs 110 z' sl110; replace sl113 := gs 113 z' sl113; replace sl114 := gs 114 z' sl114; replace sl115 := gs 115 z' sl115; replace sl116 := gs 116 z' sl116; replace sl117 := gs 117 z' sl117; replace sl118 := gs 118 z' sl118; replace sl119 := gs 119 z' sl119; replace sl120 := gs 120 z' sl120; replace sl121 := gs 121 z' sl121; replace sl122 := gs 122 z' sl122; replace sl123 := gs 123 z' sl123; replace sl124 := gs 124 z' sl124; replace sl125 := gs 125 z' sl125; replace sl126 := gs 126 z' sl126; replace sl129 := gs 129 z' sl129; replace sl130 := gs 130 z' sl130; replace sl131 := gs 131 z' sl131
       replace sl132 := gs 132 z' sl132; replace sl133 := gs 133 z' sl133; replace sl134 := gs 134 z' sl134; replace sl135 := gs 135 z' sl135; replace sl136 := gs 136 z' sl136; replace sl137 := gs 137 z' sl137; replace sl138 := gs 138 z' sl138; replace sl139 := gs 139 z' sl139; replace sl140 := gs 140 z' sl140; replace sl141 := gs 141 z' sl141; replace sl142 := gs 142 z' sl142; replace sl143 := gs 143 z' sl143; clear z' sl144; refine listF_nil ?_
       repeat ((fail_if_success refine stp ?_); with_reducible go_step)
       refine ⟨_, _, rfl, ?_, 0 + 1, rfl, (by first | (with_reducible exact sl14) | (rw [sl14]; (with_reducible go_num); done) | (rw [sl14, IntWalk.i64_in] <;> first | ((with_reducible go_num); done) | omega) | (rw [sl14]; go_num; done) | (rw [sl14]; simp; done) | (rw [sl14]; simp; omega)), (sl2.trans hc0_2.out.symm), (sl4.trans hc0_4.out.symm), (sl7.trans hc0_7.out.symm), (sl8.trans hc0_8.out.symm), (sl13.trans hc0_13.out.symm), HL27.out, by omega⟩
       omega
      case dep34 =>
        iterate 47 refine dR ?_
        exact depR_nil
     ·skip
      have hU2 : ¬ (U.length : Int) = 1 := by omega
      have cb3_0 := kb3.cell 0 rfl; have cb3_1 := kb3.cell 1 rfl; have cb3_2 := kb3.cell 2 rfl; have cb3_3 := kb3.cell 3 rfl; have cb4_0 := kb4.cell 0 rfl; have cb4_1 := kb4.cell 1 rfl; have cb4_2 := kb4.cell 2 rfl; refine regionR_F [] [] [] [.q [], .q [], .q [], .q [], .q [], .q [], .q [], .q [], .q [], .q [], .q [], .q [], .q [], .q [], .q [], .q [], .q [], .q [], .no, .no, .no, .no, .no, .no, .no, .no, .no, .no, .q [], .q [], .q [], .q [], .q [], .q [], .q [], .no, .no, .no, .no, .no, .no, .no, .no, .no, .no, .q [], .q []] [?v35_0, ?v35_1, ?v35_2, ?v35_3, ?v35_4, ?v35_5, ?v35_6, ?v35_7, ?v35_8, ?v35_9, ?v35_10, ?v35_11, ?v35_12, ?v35_13, ?v35_14, ?v35_15, ?v35_16, ?v35_17, fun _ => undef, fun _ => undef, fun _ => undef, fun _ => undef, fun _ => undef, fun _ => undef, fun _ => undef, fun _ => undef, fun _ => undef, fun _ => undef, ?v35_28, ?v35_29, ?v35_30, ?v35_31, ?v35_32, ?v35_33, ?v35_34, fun _ => undef, fun _ => undef, fun _ => undef, fun _ => undef, fun _ => undef, fun _ => undef, fun _ => undef, fun _ => undef, fun _ => undef, fun _ => undef, ?v35_45, ?v35_46] [fun _ => [], fun _ => [], fun _ => [], fun _ => [], fun _ => [], fun _ => [], fun _ => [], fun _ => [], fun _ => [], fun _ => [], fun _ => [], fun _ => [], fun _ => [], fun _ => [], fun _ => [], fun _ => [], fun _ => [], fun _ => [], fun _ => [], fun _ => [], fun _ => [], fun _ => [], fun _ => [], fun _ => [], fun _ => [], fun _ => [], fun _ => [], fun _ => [], fun _ => [], fun _ => [], fun _ => [], fun _ => [], fun _ => [], fun _ => [], fun _ => [], fun _ => [], fun _ => [], fun _ => [], fun _ => [], fun _ => [], fun _ => [], fun _ => [], fun _ => [], fun _ => [], fun _ => [], fun _ => [], fun _ => []] (by kernel_rfl) (by kernel_rfl) (by kernel_rfl) (by kernel_rfl) (by kernel_rfl) (by first | exact List.nodup_nil | exact List.nodup_singleton _ | (simp; done) | (simp; omega)) bc_nil ?walk35 ?dep35
      case walk35 =>
       iterate 6 refine rq ?_
       iterate 7 refine rqy ?_
       refine rq ?_; refine rq ?_
       iterate 3 refine rqy ?_
       refine walkR_no (b' := false) (by rfl) (by rfl) (by decide) (fun X hX => ?_) (by rfl) ?_
       · go_simp
       refine walkR_no (b' := false) (by rfl) (by rfl) (by decide) (fun X hX => ?_) (by rfl) ?_
       · go_simp
       refine walkR_no (b' := false) (by rfl) (by rfl) (by decide) (fun X hX => ?_) (by rfl) ?_
       · go_simp
       refine walkR_no (b' := false) (by rfl) (by rfl) (by decide) (fun X hX => ?_) (by rfl) ?_
       · go_simp
       refine walkR_no (b' := false) (by rfl) (by rfl) (by decide) (fun X hX => ?_) (by rfl) ?_
       · go_simp
       refine walkR_no (b' := false) (by rfl) (by rfl) (by decide) (fun X hX => ?_) (by rfl) ?_
       · go_simp
       refine walkR_no (b' := false) (by rfl) (by rfl) (by decide) (fun X hX => ?_) (by rfl) ?_
       · go_simp
       refine walkR_no (b' := false) (by rfl) (by rfl) (by decide) (fun X hX => ?_) (by rfl) ?_
       · go_simp
       refine walkR_no (b' := false) (by rfl) (by rfl) (by decide) (fun X hX => ?_) (by rfl) ?_
       · go_simp
       refine walkR_no (b' := false) (by rfl) (by rfl) (by decide) (fun X hX => ?_) (by rfl) ?_
       · go_simp
       refine rqy ?_; refine rq ?_; refine rq ?_
       iterate 4 refine rqy ?_
       refine walkR_no (b' := false) (by rfl) (by rfl) (by decide) (fun X hX => ?_) (by rfl) ?_
       · go_simp
       refine walkR_no (b' := false) (by rfl) (by rfl) (by decide) (fun X hX => ?_) (by rfl) ?_
       · go_simp
       refine walkR_no (b' := false) (by rfl) (by rfl) (by decide) (fun X hX => ?_) (by rfl) ?_
       · go_simp
       refine walkR_no (b' := false) (by rfl) (by rfl) (by decide) (fun X hX => ?_) (by rfl) ?_
       · go_simp
       refine walkR_no (b' := false) (by rfl) (by rfl) (by decide) (fun X hX => ?_) (by rfl) ?_
       · go_simp
       refine walkR_no (b' := false) (by rfl) (by rfl) (by decide) (fun X hX => ?_) (by rfl) ?_
       · go_simp
       refine walkR_no (b' := false) (by rfl) (by rfl) (by decide) (fun X hX => ?_) (by rfl) ?_
       · go_simp
       refine walkR_no (b' := false) (by rfl) (by rfl) (by decide) (fun X hX => ?_) (by rfl) ?_
       · go_simp
       refine walkR_no (b' := false) (by rfl) (by rfl) (by decide) (fun X hX => ?_) (by rfl) ?_
       · go_simp
       refine walkR_no (b' := false) (by rfl) (by rfl) (by decide) (fun X hX => ?_) (by rfl) ?_
       · go_simp
       refine rqy ?_; refine rq ?_; refine walkR_nil (fun X hX w33 hwz hcz => ?_); clear hX hcz
       (try clear X)
       skip; have hb34 := hwz.unDrew; clear hwz; clear cb3_0 cb3_1 cb3_2 cb3_3 cb4_0 cb4_1 cb4_2; clear qb3 qb4; replace kb3 := kb3.oldB hb34 (by first | (simp; done) | (simp; omega)); replace kb4 := kb4.oldB hb34 (by first | (simp; done) | (simp; omega)); replace HLg := hid (HLg.out.more hb34 (by simp; try omega)); replace HL27 := hid (HL27.out.more hb34 (by simp; try omega)); replace HB := hid (HB.out.more hb34 (by simp; try omega)); clear hb34; have qb3 := kb3.1; have qb4 := kb4.1; refine listF_abs (fun s35 z' => ?_); replace sl2 := gs 2 z' sl2; replace sl4 := gs 4 z' sl4; replace sl7 := gs 7 z' sl7; replace sl8 := gs 8 z' sl8; replace sl13 := gs 13 z' sl13; replace sl14 := gs 14 z' sl14; have sl104 := gu 104 z'; have sl105 := gu 105 z'; have sl106 := gu 106 z'; have sl107 := gu 107 z'; have sl108 := gu 108 z'; have sl109 := gu 109 z'; have sl110 := gu 110 z'; have sl113 := gu 113 z'; have sl114 := gu 114 z'; have sl115 := gu 115 z'; have sl116 := gu 116 z'; have sl117 := gu 117 z'
       have sl118 := gu 118 z'; have sl119 := gu 119 z'; have sl120 := gu 120 z'; have sl121 := gu 121 z'; have sl122 := gu 122 z'; have sl123 := gu 123 z'; have sl124 := gu 124 z'; have sl125 := gu 125 z'; have sl126 := gu 126 z'; have sl129 := gu 129 z'; have sl130 := gu 130 z'; have sl131 := gu 131 z'; have sl132 := gu 132 z'; have sl133 := gu 133 z'; have sl134 := gu 134 z'; have sl135 := gu 135 z'; have sl136 := gu 136 z'; have sl137 := gu 137 z'; have sl138 := gu 138 z'; have sl139 := gu 139 z'; have sl140 := gu 140 z'; have sl141 := gu 141 z'; have sl142 := gu 142 z'; have sl143 := gu 143 z'; have sl144 := gu 144 z'; clear z' sl95; refine listF_nil ?_
       repeat ((fail_if_success refine stp ?_); with_reducible go_step)
       refine cond_f ?_
       repeat ((fail_if_success refine stp ?_); with_reducible go_step)
       refine region_F ?_
       iterate 3 refine pl ?_
       refine listF_abs (fun s36 z' => ?_); replace sl2 := gs 2 z' sl2; replace sl4 := gs 4 z' sl4; replace sl7 := gs 7 z' sl7; replace sl8 := gs 8 z' sl8; replace sl13 := gs 13 z' sl13; replace sl14 := gu 14 z'; replace sl104 := gs 104 z' sl104; replace sl105 := gs 105 z' sl105; replace sl106 := gs 106 z' sl106; replace sl107 := gs 107 z' sl107; replace sl108 := gs 108 z' sl108; replace sl109 := gs 109 z' sl109; replace sl110 := gs 110 z' sl110; replace sl113 := gs 113 z' sl113; replace sl114 := gs 114 z' sl114; replace sl115 := gs 115 z' sl115; replace sl116 := gs 116 z' sl116; replace sl117 := gs 117 z' sl117; replace sl118 := gs 118 z' sl118; replace sl119 := gs 119 z' sl119; replace sl120 := gs 120 z' sl120; replace sl121 := gs 121 z' sl121; replace sl122 := gs 122 z' sl122; replace sl123 := gs 123 z' sl123; replace sl124 := gs 124 z' sl124; replace sl125 := gs 125 z' sl125; replace sl126 := gs 126 z' sl126; replace sl129 := gs 129 z' sl129; replace sl130 := gs 130 z' sl130; replace sl131 := gs 131 z' sl131
       replace sl132 := gs 132 z' sl132; replace sl133 := gs 133 z' sl133; replace sl134 := gs 134 z' sl134; replace sl135 := gs 135 z' sl135; replace sl136 := gs 136 z' sl136; replace sl137 := gs 137 z' sl137; replace sl138 := gs 138 z' sl138; replace sl139 := gs 139 z' sl139; replace sl140 := gs 140 z' sl140; replace sl141 := gs 141 z' sl141; replace sl142 := gs 142 z' sl142; replace sl143 := gs 143 z' sl143; clear z' sl144; refine listF_nil ?_
       repeat ((fail_if_success refine stp ?_); with_reducible go_step)
       refine ⟨_, _, rfl, ?_, 0 + 1, rfl, (by first | (with_reducible exact sl14) | (rw [sl14]; (with_reducible go_num); done) | (rw [sl14, IntWalk.i64_in] <;> first | ((with_reducible go_num); done) | omega) | (rw [sl14]; go_num; done) | (rw [sl14]; simp; done) | (rw [sl14]; simp; omega)), (sl2.trans hc0_2.out.symm), (sl4.trans hc0_4.out.symm), (sl7.trans hc0_7.out.symm), (sl8.trans hc0_8.out.symm), (sl13.trans hc0_13.out.symm), HL27.out, by omega⟩
       omega
      case dep35 =>
        iterate 47 refine dR ?_
        exact depR_nil
    ·skip
     obtain ⟨m, rfl⟩ : ∃ m, i = m + 1 := ⟨i - 1, by omega⟩; obtain ⟨u0, hu0⟩ : ∃ q, U[m] = q := ⟨_, rfl⟩; have cI0 := cAll m (by omega); rw [hu0] at cI0; have hlt := HG.out.asc m (by omega) hi; rw [hu0, hj1] at hlt
     have hle : ¬ (j : Int) ≤ u0 := by omega
     have hU1 : ¬ U.length = 1 := by omega
     have hU2 : ¬ (U.length : Int) = 1 := by omega
     clear hu0 hlt cAll
     have hm0 : 0 < m + 1 := by omega
     have hmi : (0 : Int) < (m : Int) + 1 := by omega
     have hmi2 : (m : Int) + 1 < U.length := by omega
     have hmi3 : (0 : Int) ≤ (m : Int) + 1 := by omega
     have wm : IntKind.i64.wrap (m : Int) = m := IntWalk.i64_in _ (by omega)
     have hm1 : m < U.length := by omega
     have hm2 : (m : Int) < U.length := by omega
     have hi' : m + 1 < U.length := hi; have cb3_0 := kb3.cell 0 rfl; have cb3_1 := kb3.cell 1 rfl; have cb3_2 := kb3.cell 2 rfl; have cb3_3 := kb3.cell 3 rfl; have cb4_0 := kb4.cell 0 rfl; have cb4_1 := kb4.cell 1 rfl; have cb4_2 := kb4.cell 2 rfl; refine regionR_F [] [] [] [.q [], .q [], .q [], .q [], .q [], .q [], .q [], .q [], .q [], .q [], .q [], .q [], .q [], .q [], .q [], .q [], .q [], .q [], .q [], .q [], .q [], .q [], .q [], .q [], .q [], .q [], .q [], .q [], .q [], .q [], .q [], .q [], .q [], .q [], .q [], .no, .no, .no, .no, .no, .no, .no, .no, .no, .no, .q [], .q []] [?v36_0, ?v36_1, ?v36_2, ?v36_3, ?v36_4, ?v36_5, ?v36_6, ?v36_7, ?v36_8, ?v36_9, ?v36_10, ?v36_11, ?v36_12, ?v36_13, ?v36_14, ?v36_15, ?v36_16, ?v36_17, ?v36_18, ?v36_19, ?v36_20, ?v36_21, ?v36_22, ?v36_23, ?v36_24, ?v36_25, ?v36_26, ?v36_27, ?v36_28, ?v36_29, ?v36_30, ?v36_31, ?v36_32, ?v36_33, ?v36_34, fun _ => undef, fun _ => undef, fun _ => undef, fun _ => undef, fun _ => undef, fun _ => undef, fun _ => undef, fun _ => undef, fun _ => undef, fun _ => undef, ?v36_45, ?v36_46] [fun _ => [], fun _ => [], fun _ => [], fun _ => [], fun _ => [], fun _ => [], fun _ => [], fun _ => [], fun _ => [], fun _ => [], fun _ => [], fun _ => [], fun _ => [], fun _ => [], fun _ => [], fun _ => [], fun _ => [], fun _ => [], fun _ => [], fun _ => [], fun _ => [], fun _ => [], fun _ => [], fun _ => [], fun _ => [], fun _ => [], fun _ => [], fun _ => [], fun _ => [], fun _ => [], fun _ => [], fun _ => [], fun _ => [], fun _ => [], fun _ => [], fun _ => [], fun _ => [], fun _ => [], fun _ => [], fun _ => [], fun _ => [], fun _ => [], fun _ => [], fun _ => [], fun _ => [], fun _ => [], fun _ => []] (by kernel_rfl) (by kernel_rfl) (by kernel_rfl) (by kernel_rfl) (by kernel_rfl) (by first | exact List.nodup_nil | exact List.nodup_singleton _ | (simp; done) | (simp; omega)) bc_nil ?walk36 ?dep36
     case walk36 =>
      iterate 6 refine rq ?_
      iterate 7 refine rqy ?_
      refine rq ?_; refine rq ?_
      iterate 14 refine rqy ?_
      refine rq ?_; refine rq ?_
      iterate 4 refine rqy ?_
      refine walkR_no (b' := false) (by rfl) (by rfl) (by decide) (fun X hX => ?_) (by rfl) ?_
      · go_simp
      refine walkR_no (b' := false) (by rfl) (by rfl) (by decide) (fun X hX => ?_) (by rfl) ?_
      · go_simp
      refine walkR_no (b' := false) (by rfl) (by rfl) (by decide) (fun X hX => ?_) (by rfl) ?_
      · go_simp
      refine walkR_no (b' := false) (by rfl) (by rfl) (by decide) (fun X hX => ?_) (by rfl) ?_
      · go_simp
      refine walkR_no (b' := false) (by rfl) (by rfl) (by decide) (fun X hX => ?_) (by rfl) ?_
      · go_simp
      refine walkR_no (b' := false) (by rfl) (by rfl) (by decide) (fun X hX => ?_) (by rfl) ?_
      · go_simp
      refine walkR_no (b' := false) (by rfl) (by rfl) (by decide) (fun X hX => ?_) (by rfl) ?_
      · go_simp
      refine walkR_no (b' := false) (by rfl) (by rfl) (by decide) (fun X hX => ?_) (by rfl) ?_
      · go_simp
      refine walkR_no (b' := false) (by rfl) (by rfl) (by decide) (fun X hX => ?_) (by rfl) ?_
      · go_simp
      refine walkR_no (b' := false) (by rfl) (by rfl) (by decide) (fun X hX => ?_) (by rfl) ?_
      · go_simp
      refine rqy ?_; refine rq ?_; refine walkR_nil (fun X hX w37 hwz hcz => ?_); clear hX hcz
      (try clear X)
      skip; have hb38 := hwz.unDrew; clear hwz; clear cb3_0 cb3_1 cb3_2 cb3_3 cb4_0 cb4_1 cb4_2; clear qb3 qb4; replace kb3 := kb3.oldB hb38 (by first | (simp; done) | (simp; omega)); replace kb4 := kb4.oldB hb38 (by first | (simp; done) | (simp; omega)); replace HLg := hid (HLg.out.more hb38 (by simp; try omega)); replace HL27 := hid (HL27.out.more hb38 (by simp; try omega)); replace HB := hid (HB.out.more hb38 (by simp; try omega)); clear hb38; have qb3 := kb3.1; have qb4 := kb4.1; refine listF_abs (fun s39 z' => ?_); replace sl2 := gs 2 z' sl2; replace sl4 := gs 4 z' sl4; replace sl7 := gs 7 z' sl7; replace sl8 := gs 8 z' sl8; replace sl13 := gs 13 z' sl13; replace sl14 := gs 14 z' sl14; have sl104 := gu 104 z'; have sl105 := gu 105 z'; have sl106 := gu 106 z'; have sl107 := gu 107 z'; have sl108 := gu 108 z'; have sl109 := gu 109 z'; have sl110 := gu 110 z'; have sl113 := gu 113 z'; have sl114 := gu 114 z'; have sl115 := gu 115 z'; have sl116 := gu 116 z'; have sl117 := gu 117 z'
      have sl118 := gu 118 z'; have sl119 := gu 119 z'; have sl120 := gu 120 z'; have sl121 := gu 121 z'; have sl122 := gu 122 z'; have sl123 := gu 123 z'; have sl124 := gu 124 z'; have sl125 := gu 125 z'; have sl126 := gu 126 z'; have sl129 := gu 129 z'; have sl130 := gu 130 z'; have sl131 := gu 131 z'; have sl132 := gu 132 z'; have sl133 := gu 133 z'; have sl134 := gu 134 z'; have sl135 := gu 135 z'; have sl136 := gu 136 z'; have sl137 := gu 137 z'; have sl138 := gu 138 z'; have sl139 := gu 139 z'; have sl140 := gu 140 z'; have sl141 := gu 141 z'; have sl142 := gu 142 z'; have sl143 := gu 143 z'; have sl144 := gu 144 z'; clear z' sl95; refine listF_nil ?_
      repeat ((fail_if_success refine stp ?_); with_reducible go_step)
      refine cond_f ?_
      repeat ((fail_if_success refine stp ?_); with_reducible go_step)
      refine region_F ?_
      iterate 3 refine pl ?_
      refine listF_abs (fun s40 z' => ?_); replace sl2 := gs 2 z' sl2; replace sl4 := gs 4 z' sl4; replace sl7 := gs 7 z' sl7; replace sl8 := gs 8 z' sl8; replace sl13 := gs 13 z' sl13; replace sl14 := gu 14 z'; replace sl104 := gs 104 z' sl104; replace sl105 := gs 105 z' sl105; replace sl106 := gs 106 z' sl106; replace sl107 := gs 107 z' sl107; replace sl108 := gs 108 z' sl108; replace sl109 := gs 109 z' sl109; replace sl110 := gs 110 z' sl110; replace sl113 := gs 113 z' sl113; replace sl114 := gs 114 z' sl114; replace sl115 := gs 115 z' sl115; replace sl116 := gs 116 z' sl116; replace sl117 := gs 117 z' sl117; replace sl118 := gs 118 z' sl118; replace sl119 := gs 119 z' sl119; replace sl120 := gs 120 z' sl120; replace sl121 := gs 121 z' sl121; replace sl122 := gs 122 z' sl122; replace sl123 := gs 123 z' sl123; replace sl124 := gs 124 z' sl124; replace sl125 := gs 125 z' sl125; replace sl126 := gs 126 z' sl126; replace sl129 := gs 129 z' sl129; replace sl130 := gs 130 z' sl130; replace sl131 := gs 131 z' sl131
      replace sl132 := gs 132 z' sl132; replace sl133 := gs 133 z' sl133; replace sl134 := gs 134 z' sl134; replace sl135 := gs 135 z' sl135; replace sl136 := gs 136 z' sl136; replace sl137 := gs 137 z' sl137; replace sl138 := gs 138 z' sl138; replace sl139 := gs 139 z' sl139; replace sl140 := gs 140 z' sl140; replace sl141 := gs 141 z' sl141; replace sl142 := gs 142 z' sl142; replace sl143 := gs 143 z' sl143; clear z' sl144; refine listF_nil ?_
      repeat ((fail_if_success refine stp ?_); with_reducible go_step)
      refine ⟨_, _, rfl, ?_, m + 1 + 1, rfl, (by first | (with_reducible exact sl14) | (rw [sl14]; (with_reducible go_num); done) | (rw [sl14, IntWalk.i64_in] <;> first | ((with_reducible go_num); done) | omega) | (rw [sl14]; go_num; done) | (rw [sl14]; simp; done) | (rw [sl14]; simp; omega)), (sl2.trans hc0_2.out.symm), (sl4.trans hc0_4.out.symm), (sl7.trans hc0_7.out.symm), (sl8.trans hc0_8.out.symm), (sl13.trans hc0_13.out.symm), HL27.out, by omega⟩
      omega
     case dep36 =>
       iterate 47 refine dR ?_
       exact depR_nil
   ·skip
    repeat ((fail_if_success refine stp ?_); with_reducible go_step)
    clear HL27; clear hc0_2 hc0_4 hc0_7 hc0_8 hc0_13; refine region_F ?_
    iterate 3 refine pl ?_
    refine listF_abs (fun s41 z' => ?_); replace sl2 := gs 2 z' sl2; replace sl4 := gs 4 z' sl4; replace sl7 := gs 7 z' sl7; replace sl8 := gs 8 z' sl8; replace sl13 := gs 13 z' sl13; have sl147 := gu 147 z'; clear z' sl14 sl95; refine listF_nil ?_
    repeat ((fail_if_success refine stp ?_); with_reducible go_step)
    refine cond_E sl147 (by decide) ?_ ?_ <;> (clear sl147; intro h147 sl147)
    ·skip
     repeat ((fail_if_success refine stp ?_); with_reducible go_step)
     refine region_F ?_; refine listF_step rfl (fun K' hK => ?_); unfold opF; go_simp; refine (awake_any _).mono ?_; rintro e w42 ⟨rfl, hb43⟩; refine ⟨_, rfl, hK _ _ ?_⟩; clear hK K'; clear qb3 qb4; replace kb3 := kb3.at hb43; replace kb4 := kb4.at hb43; replace HLg := hid (HLg.out.below hb43); replace HB := hid (HB.out.below hb43); clear hb43; have qb3 := kb3.1; have qb4 := kb4.1; refine pl ?_; refine listF_abs (fun s44 z' => ?_); have sl6 := gu 6 z'; clear z' sl2 sl4 sl7 sl8 sl13 sl147; refine listF_nil ?_
     repeat ((fail_if_success refine stp ?_); with_reducible go_step)
     refine ret_F _ (res_t Try.results14 ((getD_F (by decide)).trans sl6)) ?_; exact ⟨rfl, HB.out.toBelow⟩
    ·skip
     have hy2 : ¬ y = [] := by have h := h147; simpa using h
     have hy0 : 0 < y.length := List.length_pos_iff.2 hy2
     have hy1 : ¬ (y.length : Int) = 0 := by omega
     repeat ((fail_if_success refine stp ?_); with_reducible go_step)
     refine region_F ?_; refine pl ?_; refine listF_abs (fun s45 z' => ?_); replace sl2 := gs 2 z' sl2; replace sl4 := gs 4 z' sl4; replace sl7 := gs 7 z' sl7; replace sl8 := gs 8 z' sl8; replace sl13 := gs 13 z' sl13; have sl15 := gu 15 z'; clear z' sl147; refine listF_nil ?_
     repeat ((fail_if_success refine stp ?_); with_reducible go_step)
     refine region_F ?_; refine pl ?_; refine listF_abs (fun s46 z' => ?_); replace sl2 := gs 2 z' sl2; replace sl4 := gs 4 z' sl4; replace sl7 := gs 7 z' sl7; replace sl8 := gs 8 z' sl8; replace sl13 := gs 13 z' sl13; replace sl15 := gs 15 z' sl15; have sl16 := gu 16 z'; clear z'; refine listF_nil ?_
     repeat ((fail_if_success refine stp ?_); with_reducible go_step)
     refine region_F ?_; refine pl ?_; refine listF_abs (fun s47 z' => ?_); replace sl2 := gs 2 z' sl2; replace sl4 := gs 4 z' sl4; replace sl7 := gs 7 z' sl7; replace sl8 := gs 8 z' sl8; replace sl13 := gs 13 z' sl13; replace sl15 := gs 15 z' sl15; replace sl16 := gs 16 z' sl16; have sl17 := gu 17 z'; clear z'; refine listF_nil ?_
     repeat ((fail_if_success refine stp ?_); with_reducible go_step)
     have hc1_2 := hid sl2; have hc1_4 := hid sl4; have hc1_7 := hid sl7; have hc1_8 := hid sl8; have hc1_13 := hid sl13; refine loop_F (n := 235) (fun kJ sJ wJ => ∃ (i : Nat), kJ = A.length - i ∧ sJ 15 = .int .i64 (belUp nd (strQ l y) i) ∧ sJ 16 = .bool (inUp A (strQ l y) i) ∧ sJ 17 = .int .i64 (i : Int) ∧ sJ 2 = s47 2 ∧ sJ 4 = s47 4 ∧ sJ 7 = s47 7 ∧ sJ 8 = s47 8 ∧ sJ 13 = s47 13 ∧ OldB [] w25 wJ ∧ i ≤ A.length) ⟨0, rfl, (by first | exact sl15 | (rw [sl15]; go_num) | (rw [sl15]; rfl)), (by first | exact sl16 | (rw [sl16]; go_num) | (rw [sl16]; rfl)), (by first | exact sl17 | (rw [sl17]; go_num) | (rw [sl17]; rfl)), rfl, rfl, rfl, rfl, rfl, OldB.refl _ _, Nat.zero_le _⟩ ?_; clear sl15 sl16 sl17; rintro kJ s48 w49 ⟨i, rfl, sl15, sl16, sl17, e2, e4, e7, e8, e13, hb50, hil⟩; replace sl2 := e2.trans sl2; clear e2; replace sl4 := e4.trans sl4; clear e4; replace sl7 := e7.trans sl7; clear e7; replace sl8 := e8.trans sl8; clear e8
     replace sl13 := e13.trans sl13; clear e13; have hoJ := hb50; clear qb3 qb4; replace kb3 := kb3.oldB hb50 (by first | (simp; done) | (simp; omega)); replace kb4 := kb4.oldB hb50 (by first | (simp; done) | (simp; omega)); replace HLg := hid (HLg.out.more hb50 (by simp; try omega)); replace HB := hid (HB.out.more hb50 (by simp; try omega)); clear hb50; have qb3 := kb3.1; have qb4 := kb4.1; have HoJ := hid hoJ; clear hoJ; have HL51 := HoJ; clear HoJ
     repeat ((fail_if_success refine stp ?_); with_reducible go_step)
     refine region_F ?_
     iterate 4 refine pl ?_
     refine listF_abs (fun s52 z' => ?_); replace sl2 := gs 2 z' sl2; replace sl4 := gs 4 z' sl4; replace sl7 := gs 7 z' sl7; replace sl8 := gs 8 z' sl8; replace sl13 := gs 13 z' sl13; replace sl15 := gs 15 z' sl15; replace sl16 := gs 16 z' sl16; replace sl17 := gs 17 z' sl17; have sl152 := gu 152 z'; clear z'; refine listF_nil ?_
     repeat ((fail_if_success refine stp ?_); with_reducible go_step)
     refine cond_E sl152 (by decide) ?_ ?_ <;> (clear sl152; intro h152 sl152)
     ·skip
      have hiA : i < A.length := by simpa using h152
      have hil1 : i < l.length := by have := HG.out.al; omega
      have hiAi : (i : Int) < A.length := by omega
      have hiLi : (i : Int) < l.length := by omega
      obtain ⟨bl, ol, hal1, hbl, cl0, cl1⟩ := RdSpans.ne (Rd.oldB HRl.out HB.out (by simp)) hil1; subst hal1; obtain ⟨⟨q0, q1⟩, hq⟩ : ∃ q, l[i] = q := ⟨_, rfl⟩; have hsp := HG.out.sp i hil1; rw [hq] at cl0 cl1 hsp; have cl0 := cl0; obtain ⟨⟨s0, s1⟩, ⟨s2, s3⟩, s4⟩ := hsp; have s0 : 0 ≤ q0 := s0; have s1 : q0 ≤ 1000000 := s1; have s2 : 0 ≤ q1 := s2; have s3 : q1 ≤ 1000000 := s3; have s4 : q0 ≤ q1 := s4; obtain ⟨q, hqq⟩ : ∃ q, i % y.length = q := ⟨_, rfl⟩
      have jm : q < y.length := by rw [← hqq]; exact Nat.mod_lt _ hy0
      have jt : (i : Int).tmod (y.length : Int) = (q : Int) := by rw [← hqq]; exact (Int.ofNat_tmod _ _).symm
      have jw : IntKind.i64.wrap (q : Int) = (q : Int) := IntWalk.i64_in _ (by omega)
      have jmi : (q : Int) < (y.length : Int) := by omega
      obtain ⟨yv, hyv⟩ : ∃ z, y[q] = z := ⟨_, rfl⟩; have hyb := HUy.out _ (List.getElem_mem jm); rw [hyv] at hyb; have Hyv := hid hyv; have Hx := hid (show strQ l y i = q0 + yv % (q1 - q0 + 1) by unfold strQ; rw [getD_get hil1, hq, hqq, getD_get jm, hyv]); have Hxi := hid (strQ_in (y := y) hil1 (by rw [hq]; exact s4)); clear hq hqq hyv; obtain ⟨⟨r0, r1⟩, hr⟩ : ∃ q, A[i] = q := ⟨_, rfl⟩; have Hin0 := hid (show inUp A (strQ l y) (i + 1) = (inUp A (strQ l y) i && decide (r0 ≤ strQ l y i) && decide (strQ l y i ≤ r1)) by show (_ && decide ((A.getD i Span.zero).lo ≤ _) && decide (_ ≤ (A.getD i Span.zero).hi)) = _; rw [getD_get hiA, hr]); have Hr := hid hr; clear hr
      repeat ((fail_if_success refine stp ?_); with_reducible go_step)
      refine region_F ?_; refine pl ?_; have cb4_0 := kb4.cell 0 rfl; have cb4_1 := kb4.cell 1 rfl; have cb4_2 := kb4.cell 2 rfl
      iterate 4 refine pl ?_
      have hgs := HLg.out.size; refine pa (fun w53 B18 hB kb18' hb54 => ?_); have gb18 := HB.out.gB hB; have lHL51_b18 := HL51.out.gB hB; have ob3_b18 := oB qb3 hB; have ob4_b18 := oB qb4 hB; have eb18 := eB hB; clear hB; clear cb4_0 cb4_1 cb4_2; clear qb3 qb4; replace kb3 := kb3.at hb54; replace kb4 := kb4.at hb54; replace HLg := hid (HLg.out.below hb54); replace HL51 := hid (HL51.out.below hb54); replace HB := hid (HB.out.below hb54); clear hb54; have qb3 := kb3.1; have qb4 := kb4.1; have kb18 := kb18'; clear kb18'; have qb18 := kb18.1; have cb18_0 := kb18.cell 0 rfl; have cb18_1 := kb18.cell 1 rfl; have zb18 := kb18.2.2; refine pl ?_; refine listF_absw (fun w55 hw' => ?_); have kb18' := cells_of hw' (Cells.set (i := 1) (Cells.set (i := 0) (kb18)))
      (try simp only [vC, List.set_cons_zero, List.set_cons_succ] at kb18')
      have hb56 : OldB [B18] w53 w55 := oldset hw'; clear hw'; clear cb18_0 cb18_1 zb18; clear qb3 qb4 qb18; replace kb18 := kb18'; replace kb3 := kb3.oldB hb56 (by first | (simp; done) | (simp; omega)); replace kb4 := kb4.oldB hb56 (by first | (simp; done) | (simp; omega)); replace HLg := hid (HLg.out.more hb56 (by simp; try omega)); replace HL51 := hid (HL51.out.more hb56 (by simp; try omega)); replace HB := hid (HB.out.more hb56 (by simp; try omega)); clear hb56; have qb3 := kb3.1; have qb4 := kb4.1; have qb18 := kb18.1; clear kb18'; refine listF_abs (fun s57 z' => ?_); replace sl2 := gs 2 z' sl2; replace sl4 := gs 4 z' sl4; replace sl7 := gs 7 z' sl7; replace sl8 := gs 8 z' sl8; replace sl13 := gs 13 z' sl13; replace sl15 := gs 15 z' sl15; replace sl16 := gs 16 z' sl16; replace sl17 := gs 17 z' sl17; have sl18 := gu 18 z'; clear z' sl152; refine listF_nil ?_
      repeat ((fail_if_success refine stp ?_); with_reducible go_step)
      obtain ⟨by_, oy, rfl, hby, cY⟩ := RdQ.ne (Rd.oldB HRy.out HB.out (by simp)) jm; rw [Hyv.out] at cY; have wy : IntKind.i64.wrap yv = yv := IntWalk.i64_in _ (by omega); have wq1 : IntKind.i64.wrap (q1 - q0) = q1 - q0 := IntWalk.i64_in _ (by omega); have wq2 : IntKind.i64.wrap (q1 - q0 + 1) = q1 - q0 + 1 := IntWalk.i64_in _ (by omega)
      have zq : ¬ q1 - q0 + 1 = 0 := by omega
      have tW : yv.tmod (q1 - q0 + 1) = yv % (q1 - q0 + 1) := Int.tmod_eq_emod_of_nonneg hyb.1; have m0 := Int.emod_nonneg yv (b := q1 - q0 + 1) (by omega); have m1 := Int.emod_lt_of_pos yv (b := q1 - q0 + 1) (by omega); have hXe := Hx.out; obtain ⟨rr, hrr⟩ : ∃ z, yv % (q1 - q0 + 1) = z := ⟨_, rfl⟩; rw [hrr] at tW m0 m1 hXe; clear hrr; obtain ⟨X, hX⟩ : ∃ z, q0 + rr = z := ⟨_, rfl⟩
      have wX : IntKind.i64.wrap (q0 + rr) = X := by rw [IntWalk.i64_in _ (by omega)]; exact hX
      have wrr : IntKind.i64.wrap rr = rr := IntWalk.i64_in _ (by omega); rw [hX] at hXe; have Hxe := hid hXe; clear hXe hX; have cb3_0 := kb3.cell 0 rfl; have cb3_1 := kb3.cell 1 rfl; have cb3_2 := kb3.cell 2 rfl; have cb3_3 := kb3.cell 3 rfl; have cb4_0 := kb4.cell 0 rfl; have cb4_1 := kb4.cell 1 rfl; have cb4_2 := kb4.cell 2 rfl; have cb18_0 := kb18.cell 0 rfl; have cb18_1 := kb18.cell 1 rfl; refine regionR_F [] [] [] [.q [], .q [], .q [], .q [], .q [], .q [], .q [], .q [], .q [], .q [], .q [], .q [], .q [], .q [], .q [], .q [], .q [], .q []] [?v37_0, ?v37_1, ?v37_2, ?v37_3, ?v37_4, ?v37_5, ?v37_6, ?v37_7, ?v37_8, ?v37_9, ?v37_10, ?v37_11, ?v37_12, ?v37_13, ?v37_14, ?v37_15, ?v37_16, ?v37_17] [fun _ => [], fun _ => [], fun _ => [], fun _ => [], fun _ => [], fun _ => [], fun _ => [], fun _ => [], fun _ => [], fun _ => [], fun _ => [], fun _ => [], fun _ => [], fun _ => [], fun _ => [], fun _ => [], fun _ => [], fun _ => []] (by kernel_rfl) (by kernel_rfl) (by kernel_rfl) (by kernel_rfl) (by kernel_rfl) (by first | exact List.nodup_nil | exact List.nodup_singleton _ | (simp; done) | (simp; omega)) bc_nil ?walk37 ?dep37
      case walk37 =>
       iterate 18 refine rq ?_
       refine walkR_nil (fun X hX w58 hwz hcz => ?_); clear hX hcz
       (try clear X)
       skip; have hb59 := hwz.unDrew; clear hwz; clear cb18_0 cb18_1 cb3_0 cb3_1 cb3_2 cb3_3 cb4_0 cb4_1 cb4_2; clear qb3 qb4 qb18; replace kb3 := kb3.oldB hb59 (by first | (simp; done) | (simp; omega)); replace kb4 := kb4.oldB hb59 (by first | (simp; done) | (simp; omega)); replace kb18 := kb18.oldB hb59 (by first | (simp; done) | (simp; omega)); replace HLg := hid (HLg.out.more hb59 (by simp; try omega)); replace HL51 := hid (HL51.out.more hb59 (by simp; try omega)); replace HB := hid (HB.out.more hb59 (by simp; try omega)); clear hb59; have qb3 := kb3.1; have qb4 := kb4.1; have qb18 := kb18.1; refine pl ?_; refine listF_abs (fun s60 z' => ?_); replace sl2 := gs 2 z' sl2; replace sl4 := gs 4 z' sl4; replace sl7 := gs 7 z' sl7; replace sl8 := gs 8 z' sl8; replace sl13 := gs 13 z' sl13; replace sl15 := gs 15 z' sl15; replace sl16 := gs 16 z' sl16; replace sl17 := gs 17 z' sl17; have sl19 := gu 19 z'; clear z' sl18; refine listF_nil ?_
       repeat ((fail_if_success refine stp ?_); with_reducible go_step)
       have hj61_2 := hid sl2; have hj61_4 := hid sl4; have hj61_7 := hid sl7; have hj61_8 := hid sl8; have hj61_13 := hid sl13; have hj61_15 := hid sl15; have hj61_17 := hid sl17; have hj61_19 := hid sl19; refine cut_any (fun sJ wJ => sJ 16 = .bool (inUp A (strQ l y) (i + 1)) ∧ sJ 2 = s60 2 ∧ sJ 4 = s60 4 ∧ sJ 7 = s60 7 ∧ sJ 8 = s60 8 ∧ sJ 13 = s60 13 ∧ sJ 15 = s60 15 ∧ sJ 17 = s60 17 ∧ sJ 19 = s60 19 ∧ OldB [] w58 wJ) ?_ ?_
       ·skip
        have HL62 := hid (OldB.refl [] w58); refine region_F ?_; have Hin := hid (show inUp A (strQ l y) (i + 1) = (inUp A (strQ l y) i && decide (r0 ≤ X) && decide (X ≤ r1)) by rw [Hin0.out, Hxe.out]); refine pl ?_; refine pl ?_; refine listF_abs (fun s63 z' => ?_); replace sl2 := gs 2 z' sl2; replace sl4 := gs 4 z' sl4; replace sl7 := gs 7 z' sl7; replace sl8 := gs 8 z' sl8; replace sl13 := gs 13 z' sl13; replace sl15 := gs 15 z' sl15; replace sl17 := gs 17 z' sl17; replace sl19 := gs 19 z' sl19; have sl179 := gu 179 z'; clear z' sl16
        refine boolG sl179 (fun sl179' h179 => ?_) (fun sl179' h179 => ?_) <;> (clear sl179; have sl179 := sl179'; clear sl179')
        ·skip
         refine py ?_; refine py ?_; obtain ⟨bA, oA, hae2, hbA, cA0, cA1⟩ := RdSpans.ne (Rd.oldB Hg1.out HLg.out (by simp)) hiA; subst hae2; rw [Hr.out] at cA0 cA1
         iterate 5 refine py ?_
         refine pl ?_; refine pl ?_; refine listF_abs (fun s64 z' => ?_); replace sl2 := gs 2 z' sl2; replace sl4 := gs 4 z' sl4; replace sl7 := gs 7 z' sl7; replace sl8 := gs 8 z' sl8; replace sl13 := gs 13 z' sl13; replace sl15 := gs 15 z' sl15; replace sl17 := gs 17 z' sl17; replace sl19 := gs 19 z' sl19; have sl180 := gu 180 z'; have sl181 := gu 181 z'; have sl182 := gu 182 z'; have sl183 := gu 183 z'; have sl184 := gu 184 z'; have sl185 := gu 185 z'; have sl186 := gu 186 z'; have sl188 := gu 188 z'; clear z' sl179
         refine boolG sl188 (fun sl188' h188 => ?_) (fun sl188' h188 => ?_) <;> (clear sl188; have sl188 := sl188'; clear sl188')
         ·skip
          iterate 7 refine py ?_
          refine pl ?_; refine pl ?_; refine listF_abs (fun s65 z' => ?_); replace sl2 := gs 2 z' sl2; replace sl4 := gs 4 z' sl4; replace sl7 := gs 7 z' sl7; replace sl8 := gs 8 z' sl8; replace sl13 := gs 13 z' sl13; replace sl15 := gs 15 z' sl15; have sl16 := gu 16 z'; replace sl17 := gs 17 z' sl17; replace sl19 := gs 19 z' sl19; replace sl180 := gs 180 z' sl180; replace sl181 := gs 181 z' sl181; replace sl182 := gs 182 z' sl182; replace sl183 := gs 183 z' sl183; replace sl184 := gs 184 z' sl184; replace sl185 := gs 185 z' sl185; replace sl186 := gs 186 z' sl186; have sl189 := gu 189 z'; have sl190 := gu 190 z'; have sl191 := gu 191 z'; have sl192 := gu 192 z'; have sl193 := gu 193 z'; have sl194 := gu 194 z'; have sl195 := gu 195 z'; clear z' sl188; refine listF_nil ?_
          repeat ((fail_if_success refine stp ?_); with_reducible go_step)
          exact ⟨rfl, _, rfl, (by rw [sl16, Hin.out, show inUp A (strQ l y) i = true from h179, show decide (r0 ≤ X) = true from h188]; simp), (sl2.trans hj61_2.out.symm), (sl4.trans hj61_4.out.symm), (sl7.trans hj61_7.out.symm), (sl8.trans hj61_8.out.symm), (sl13.trans hj61_13.out.symm), (sl15.trans hj61_15.out.symm), (sl17.trans hj61_17.out.symm), (sl19.trans hj61_19.out.symm), HL62.out⟩
         ·skip
          refine pn false ?_
          refine pn false ?_
          refine pn false ?_
          refine pn false ?_
          refine pn false ?_; refine pn false ?_; refine pn false ?_; refine pl ?_; refine pl ?_; refine listF_abs (fun s66 z' => ?_); replace sl2 := gs 2 z' sl2; replace sl4 := gs 4 z' sl4; replace sl7 := gs 7 z' sl7; replace sl8 := gs 8 z' sl8; replace sl13 := gs 13 z' sl13; replace sl15 := gs 15 z' sl15; have sl16 := gu 16 z'; replace sl17 := gs 17 z' sl17; replace sl19 := gs 19 z' sl19; replace sl180 := gs 180 z' sl180; replace sl181 := gs 181 z' sl181; replace sl182 := gs 182 z' sl182; replace sl183 := gs 183 z' sl183; replace sl184 := gs 184 z' sl184; replace sl185 := gs 185 z' sl185; replace sl186 := gs 186 z' sl186; clear z' sl188; refine listF_nil ?_
          repeat ((fail_if_success refine stp ?_); with_reducible go_step)
          exact ⟨rfl, _, rfl, (by rw [sl16, Hin.out, show inUp A (strQ l y) i = true from h179, show decide (r0 ≤ X) = false from h188]; rfl), (sl2.trans hj61_2.out.symm), (sl4.trans hj61_4.out.symm), (sl7.trans hj61_7.out.symm), (sl8.trans hj61_8.out.symm), (sl13.trans hj61_13.out.symm), (sl15.trans hj61_15.out.symm), (sl17.trans hj61_17.out.symm), (sl19.trans hj61_19.out.symm), HL62.out⟩
        ·skip
         refine pn false ?_; refine pn false ?_; obtain ⟨bA, oA, hae2, hbA, cA0, cA1⟩ := RdSpans.ne (Rd.oldB Hg1.out HLg.out (by simp)) hiA; subst hae2; rw [Hr.out] at cA0 cA1
         refine pn false ?_
         refine pn false ?_
         refine pn false ?_; refine pn false ?_; refine pn false ?_; refine pl ?_; refine pl ?_
         refine pn false ?_
         refine pn false ?_
         refine pn false ?_
         refine pn false ?_
         refine pn false ?_; refine pn false ?_; refine pn false ?_; refine pl ?_; refine pl ?_; refine listF_abs (fun s67 z' => ?_); replace sl2 := gs 2 z' sl2; replace sl4 := gs 4 z' sl4; replace sl7 := gs 7 z' sl7; replace sl8 := gs 8 z' sl8; replace sl13 := gs 13 z' sl13; replace sl15 := gs 15 z' sl15; have sl16 := gu 16 z'; replace sl17 := gs 17 z' sl17; replace sl19 := gs 19 z' sl19; clear z' sl179; refine listF_nil ?_
         repeat ((fail_if_success refine stp ?_); with_reducible go_step)
         exact ⟨rfl, _, rfl, (by rw [sl16, Hin.out, show inUp A (strQ l y) i = false from h179]; rfl), (sl2.trans hj61_2.out.symm), (sl4.trans hj61_4.out.symm), (sl7.trans hj61_7.out.symm), (sl8.trans hj61_8.out.symm), (sl13.trans hj61_13.out.symm), (sl15.trans hj61_15.out.symm), (sl17.trans hj61_17.out.symm), (sl19.trans hj61_19.out.symm), HL62.out⟩
       ·skip
        clear sl16; rintro s68 w69 ⟨sl16, e2, e4, e7, e8, e13, e15, e17, e19, hb70⟩; replace sl2 := e2.trans sl2; clear e2 hj61_2; replace sl4 := e4.trans sl4; clear e4 hj61_4; replace sl7 := e7.trans sl7; clear e7 hj61_7; replace sl8 := e8.trans sl8; clear e8 hj61_8; replace sl13 := e13.trans sl13; clear e13 hj61_13; replace sl15 := e15.trans sl15; clear e15 hj61_15; replace sl17 := e17.trans sl17; clear e17 hj61_17; replace sl19 := e19.trans sl19; clear e19 hj61_19; clear qb3 qb4 qb18; replace kb3 := kb3.oldB hb70 (by first | (simp; done) | (simp; omega)); replace kb4 := kb4.oldB hb70 (by first | (simp; done) | (simp; omega)); replace kb18 := kb18.oldB hb70 (by first | (simp; done) | (simp; omega)); replace HLg := hid (HLg.out.more hb70 (by simp; try omega)); replace HL51 := hid (HL51.out.more hb70 (by simp; try omega)); replace HB := hid (HB.out.more hb70 (by simp; try omega)); clear hb70; have qb3 := kb3.1; have qb4 := kb4.1; have qb18 := kb18.1
        repeat ((fail_if_success refine stp ?_); with_reducible go_step)
        refine region_F ?_
        iterate 3 refine pl ?_
        refine listF_abs (fun s71 z' => ?_); replace sl2 := gs 2 z' sl2; replace sl4 := gs 4 z' sl4; replace sl7 := gs 7 z' sl7; replace sl8 := gs 8 z' sl8; replace sl13 := gs 13 z' sl13; replace sl15 := gs 15 z' sl15; replace sl16 := gs 16 z' sl16; replace sl17 := gs 17 z' sl17; have sl199 := gu 199 z'; clear z' sl19; refine listF_nil ?_
        repeat ((fail_if_success refine stp ?_); with_reducible go_step)
        have hj72_2 := hid sl2; have hj72_4 := hid sl4; have hj72_7 := hid sl7; have hj72_8 := hid sl8; have hj72_13 := hid sl13; have hj72_16 := hid sl16; have hj72_17 := hid sl17; refine cut_any (fun sJ wJ => sJ 15 = .int .i64 (belUp nd (strQ l y) (i + 1)) ∧ sJ 2 = s71 2 ∧ sJ 4 = s71 4 ∧ sJ 7 = s71 7 ∧ sJ 8 = s71 8 ∧ sJ 13 = s71 13 ∧ sJ 16 = s71 16 ∧ sJ 17 = s71 17 ∧ OldB [] w69 wJ) ?_ ?_
        ·skip
         have HL73 := hid (OldB.refl [] w69)
         refine cond_E sl199 (by decide) ?_ ?_ <;> (clear sl199; intro h199 sl199)
         ·skip
          have Hbel := hid (show belUp nd (strQ l y) (i + 1) = belUp nd (strQ l y) i + 1 by show (if strQ l y i < nd then _ else _) = _; rw [if_pos (by rw [Hxe.out]; simpa using h199)]); have hbb := belUp_nn nd (strQ l y) i; have wb : IntKind.i64.wrap (belUp nd (strQ l y) i + 1) = belUp nd (strQ l y) i + 1 := IntWalk.i64_in _ (by omega); clear hbb
          repeat ((fail_if_success refine stp ?_); with_reducible go_step)
          refine region_F ?_
          iterate 3 refine pl ?_
          refine listF_abs (fun s74 z' => ?_); replace sl2 := gs 2 z' sl2; replace sl4 := gs 4 z' sl4; replace sl7 := gs 7 z' sl7; replace sl8 := gs 8 z' sl8; replace sl13 := gs 13 z' sl13; replace sl15 := gu 15 z'; replace sl16 := gs 16 z' sl16; replace sl17 := gs 17 z' sl17; clear z' sl199; refine listF_nil ?_
          repeat ((fail_if_success refine stp ?_); with_reducible go_step)
          refine region_F ?_; refine pl ?_; refine listF_abs (fun s75 z' => ?_); replace sl2 := gs 2 z' sl2; replace sl4 := gs 4 z' sl4; replace sl7 := gs 7 z' sl7; replace sl8 := gs 8 z' sl8; replace sl13 := gs 13 z' sl13; replace sl15 := gs 15 z' sl15; replace sl16 := gs 16 z' sl16; replace sl17 := gs 17 z' sl17; have sl20 := gu 20 z'; clear z'; refine listF_nil ?_
          repeat ((fail_if_success refine stp ?_); with_reducible go_step)
          refine region_F ?_; refine pl ?_; refine listF_abs (fun s76 z' => ?_); replace sl2 := gs 2 z' sl2; replace sl4 := gs 4 z' sl4; replace sl7 := gs 7 z' sl7; replace sl8 := gs 8 z' sl8; replace sl13 := gs 13 z' sl13; replace sl15 := gs 15 z' sl15; replace sl16 := gs 16 z' sl16; replace sl17 := gs 17 z' sl17; replace sl20 := gs 20 z' sl20; have sl21 := gu 21 z'; clear z'; refine listF_nil ?_
          repeat ((fail_if_success refine stp ?_); with_reducible go_step)
          have hc2_2 := hid sl2; have hc2_4 := hid sl4; have hc2_7 := hid sl7; have hc2_8 := hid sl8; have hc2_13 := hid sl13; have hc2_15 := hid sl15; have hc2_16 := hid sl16; have hc2_17 := hid sl17; refine loop_F (n := 235) (fun kJ sJ wJ => ∃ (n : Nat), kJ = U.length - n ∧ sJ 20 = .bool (thUp U (i : Int) n) ∧ sJ 21 = .int .i64 (n : Int) ∧ sJ 2 = s76 2 ∧ sJ 4 = s76 4 ∧ sJ 7 = s76 7 ∧ sJ 8 = s76 8 ∧ sJ 13 = s76 13 ∧ sJ 15 = s76 15 ∧ sJ 16 = s76 16 ∧ sJ 17 = s76 17 ∧ OldB [] w69 wJ ∧ n ≤ U.length) ⟨0, rfl, (by first | exact sl20 | (rw [sl20]; go_num) | (rw [sl20]; rfl)), (by first | exact sl21 | (rw [sl21]; go_num) | (rw [sl21]; rfl)), rfl, rfl, rfl, rfl, rfl, rfl, rfl, rfl, OldB.refl _ _, Nat.zero_le _⟩ ?_; clear sl20 sl21; rintro kJ s77 w78 ⟨n, rfl, sl20, sl21, e2, e4, e7, e8, e13, e15, e16, e17, hb79, hnl⟩; replace sl2 := e2.trans sl2; clear e2; replace sl4 := e4.trans sl4; clear e4; replace sl7 := e7.trans sl7; clear e7
          replace sl8 := e8.trans sl8; clear e8; replace sl13 := e13.trans sl13; clear e13; replace sl15 := e15.trans sl15; clear e15; replace sl16 := e16.trans sl16; clear e16; replace sl17 := e17.trans sl17; clear e17; have hoJ := hb79; clear qb3 qb4 qb18; replace kb3 := kb3.oldB hb79 (by first | (simp; done) | (simp; omega)); replace kb4 := kb4.oldB hb79 (by first | (simp; done) | (simp; omega)); replace kb18 := kb18.oldB hb79 (by first | (simp; done) | (simp; omega)); replace HLg := hid (HLg.out.more hb79 (by simp; try omega)); replace HL51 := hid (HL51.out.more hb79 (by simp; try omega)); replace HL73 := hid (HL73.out.more hb79 (by simp; try omega)); replace HB := hid (HB.out.more hb79 (by simp; try omega)); clear hb79; have qb3 := kb3.1; have qb4 := kb4.1; have qb18 := kb18.1; have HoJ := hid hoJ; clear hoJ; have HL80 := HoJ; clear HoJ
          repeat ((fail_if_success refine stp ?_); with_reducible go_step)
          refine region_F ?_
          iterate 4 refine pl ?_
          refine listF_abs (fun s81 z' => ?_); replace sl2 := gs 2 z' sl2; replace sl4 := gs 4 z' sl4; replace sl7 := gs 7 z' sl7; replace sl8 := gs 8 z' sl8; replace sl13 := gs 13 z' sl13; replace sl15 := gs 15 z' sl15; replace sl16 := gs 16 z' sl16; replace sl17 := gs 17 z' sl17; replace sl20 := gs 20 z' sl20; replace sl21 := gs 21 z' sl21; have sl205 := gu 205 z'; clear z'; refine listF_nil ?_
          repeat ((fail_if_success refine stp ?_); with_reducible go_step)
          refine cond_E sl205 (by decide) ?_ ?_ <;> (clear sl205; intro h205 sl205)
          ·skip
           have hU12 := HG.out.ul
           have hn : n < U.length := by simpa using h205
           have hni : (n : Int) < U.length := by omega
           obtain ⟨bU, oU, hae, hbU, cU⟩ := RdInts.ne (Rd.oldB Hh1.out HLg.out (by simp)) hn; subst hae; obtain ⟨u, hu⟩ : ∃ z, U[n] = z := ⟨_, rfl⟩; rw [hu] at cU; have Hth := hid (show thUp U (i : Int) (n + 1) = (thUp U (i : Int) n || decide (u = (i : Int))) by show (_ || decide (U.getD n 0 = _)) = _; rw [getD_get hn, hu]); clear hu
           repeat ((fail_if_success refine stp ?_); with_reducible go_step)
           refine region_F ?_; refine pl ?_; refine pl ?_; refine listF_abs (fun s82 z' => ?_); replace sl2 := gs 2 z' sl2; replace sl4 := gs 4 z' sl4; replace sl7 := gs 7 z' sl7; replace sl8 := gs 8 z' sl8; replace sl13 := gs 13 z' sl13; replace sl15 := gs 15 z' sl15; replace sl16 := gs 16 z' sl16; replace sl17 := gs 17 z' sl17; replace sl21 := gs 21 z' sl21; have sl209 := gu 209 z'; clear z' sl20 sl205
           refine boolG sl209 (fun sl209' h209 => ?_) (fun sl209' h209 => ?_) <;> (clear sl209; have sl209 := sl209'; clear sl209')
           ·skip
            refine pn true ?_
            refine pn true ?_
            refine pn true ?_
            refine pn true ?_; refine pn true ?_; refine pn true ?_; refine pl ?_; refine pl ?_; refine listF_abs (fun s83 z' => ?_); replace sl2 := gs 2 z' sl2; replace sl4 := gs 4 z' sl4; replace sl7 := gs 7 z' sl7; replace sl8 := gs 8 z' sl8; replace sl13 := gs 13 z' sl13; replace sl15 := gs 15 z' sl15; replace sl16 := gs 16 z' sl16; replace sl17 := gs 17 z' sl17; have sl20 := gu 20 z'; replace sl21 := gs 21 z' sl21; clear z' sl209; refine listF_nil ?_
            repeat ((fail_if_success refine stp ?_); with_reducible go_step)
            refine region_F ?_
            iterate 3 refine pl ?_
            refine listF_abs (fun s84 z' => ?_); replace sl2 := gs 2 z' sl2; replace sl4 := gs 4 z' sl4; replace sl7 := gs 7 z' sl7; replace sl8 := gs 8 z' sl8; replace sl13 := gs 13 z' sl13; replace sl15 := gs 15 z' sl15; replace sl16 := gs 16 z' sl16; replace sl17 := gs 17 z' sl17; replace sl20 := gs 20 z' sl20; replace sl21 := gu 21 z'; clear z'; refine listF_nil ?_
            repeat ((fail_if_success refine stp ?_); with_reducible go_step)
            refine ⟨_, _, rfl, ?_, n + 1, rfl, (by rw [sl20, Hth.out, show thUp U (i : Int) n = true from h209]; rfl), (by first | (with_reducible exact sl21) | (rw [sl21]; (with_reducible go_num); done) | (rw [sl21, IntWalk.i64_in] <;> first | ((with_reducible go_num); done) | omega) | (rw [sl21]; go_num; done) | (rw [sl21]; simp; done) | (rw [sl21]; simp; omega)), (sl2.trans hc2_2.out.symm), (sl4.trans hc2_4.out.symm), (sl7.trans hc2_7.out.symm), (sl8.trans hc2_8.out.symm), (sl13.trans hc2_13.out.symm), (sl15.trans hc2_15.out.symm), (sl16.trans hc2_16.out.symm), (sl17.trans hc2_17.out.symm), HL80.out, by omega⟩
            omega
           ·skip
            iterate 6 refine py ?_
            refine pl ?_; refine pl ?_; refine listF_abs (fun s85 z' => ?_); replace sl2 := gs 2 z' sl2; replace sl4 := gs 4 z' sl4; replace sl7 := gs 7 z' sl7; replace sl8 := gs 8 z' sl8; replace sl13 := gs 13 z' sl13; replace sl15 := gs 15 z' sl15; replace sl16 := gs 16 z' sl16; replace sl17 := gs 17 z' sl17; have sl20 := gu 20 z'; replace sl21 := gs 21 z' sl21; have sl210 := gu 210 z'; have sl211 := gu 211 z'; have sl212 := gu 212 z'; have sl213 := gu 213 z'; have sl214 := gu 214 z'; have sl215 := gu 215 z'; clear z' sl209; refine listF_nil ?_
            repeat ((fail_if_success refine stp ?_); with_reducible go_step)
            refine region_F ?_
            iterate 3 refine pl ?_
            refine listF_abs (fun s86 z' => ?_); replace sl2 := gs 2 z' sl2; replace sl4 := gs 4 z' sl4; replace sl7 := gs 7 z' sl7; replace sl8 := gs 8 z' sl8; replace sl13 := gs 13 z' sl13; replace sl15 := gs 15 z' sl15; replace sl16 := gs 16 z' sl16; replace sl17 := gs 17 z' sl17; replace sl20 := gs 20 z' sl20; replace sl21 := gu 21 z'; replace sl210 := gs 210 z' sl210; replace sl211 := gs 211 z' sl211; replace sl212 := gs 212 z' sl212; replace sl213 := gs 213 z' sl213; replace sl214 := gs 214 z' sl214; replace sl215 := gs 215 z' sl215; clear z'; refine listF_nil ?_
            repeat ((fail_if_success refine stp ?_); with_reducible go_step)
            refine ⟨_, _, rfl, ?_, n + 1, rfl, (by rw [sl20, Hth.out, show thUp U (i : Int) n = false from h209]; rfl), (by first | (with_reducible exact sl21) | (rw [sl21]; (with_reducible go_num); done) | (rw [sl21, IntWalk.i64_in] <;> first | ((with_reducible go_num); done) | omega) | (rw [sl21]; go_num; done) | (rw [sl21]; simp; done) | (rw [sl21]; simp; omega)), (sl2.trans hc2_2.out.symm), (sl4.trans hc2_4.out.symm), (sl7.trans hc2_7.out.symm), (sl8.trans hc2_8.out.symm), (sl13.trans hc2_13.out.symm), (sl15.trans hc2_15.out.symm), (sl16.trans hc2_16.out.symm), (sl17.trans hc2_17.out.symm), HL80.out, by omega⟩
            omega
          ·skip
           have hnU : n = U.length := by have h := h205; simp at h; omega
           repeat ((fail_if_success refine stp ?_); with_reducible go_step)
           clear HL80; clear hc2_2 hc2_4 hc2_7 hc2_8 hc2_13 hc2_15 hc2_16 hc2_17
           cases p
           ·skip
            have hth : thUp U (i : Int) U.length = true := thUp_all (HG.out.has rfl i hil1 (by rw [Hnd.out]; have hx1 := Hxi.out.1; have hx2 := Hxe.out; have h := h199; simp at h; omega)); rw [hnU, hth] at sl20; refine region_F ?_; refine pl ?_; have cb4_0 := kb4.cell 0 rfl; have cb4_1 := kb4.cell 1 rfl; have cb4_2 := kb4.cell 2 rfl
            iterate 3 refine pl ?_
            refine py ?_; refine py ?_; refine pl ?_; refine listF_abs (fun s87 z' => ?_); replace sl2 := gs 2 z' sl2; replace sl4 := gs 4 z' sl4; replace sl7 := gs 7 z' sl7; replace sl8 := gs 8 z' sl8; replace sl13 := gs 13 z' sl13; replace sl15 := gs 15 z' sl15; replace sl16 := gs 16 z' sl16; replace sl17 := gs 17 z' sl17; have sl221 := gu 221 z'; have sl222 := gu 222 z'; have sl223 := gu 223 z'; clear z' sl20 sl21 sl205; refine listF_nil ?_
            repeat ((fail_if_success refine stp ?_); with_reducible go_step)
            refine cond_f ?_
            repeat ((fail_if_success refine stp ?_); with_reducible go_step)
            clear cb4_0 cb4_1 cb4_2; exact ⟨rfl, _, rfl, (by rw [sl15]; exact congrArg _ Hbel.out.symm), (sl2.trans hj72_2.out.symm), (sl4.trans hj72_4.out.symm), (sl7.trans hj72_7.out.symm), (sl8.trans hj72_8.out.symm), (sl13.trans hj72_13.out.symm), (sl16.trans hj72_16.out.symm), (sl17.trans hj72_17.out.symm), HL73.out⟩
           ·skip
            refine region_F ?_; refine pl ?_; have cb4_0 := kb4.cell 0 rfl; have cb4_1 := kb4.cell 1 rfl; have cb4_2 := kb4.cell 2 rfl
            iterate 3 refine pl ?_
            refine pn false ?_; refine pn false ?_; refine pl ?_; refine listF_abs (fun s88 z' => ?_); replace sl2 := gs 2 z' sl2; replace sl4 := gs 4 z' sl4; replace sl7 := gs 7 z' sl7; replace sl8 := gs 8 z' sl8; replace sl13 := gs 13 z' sl13; replace sl15 := gs 15 z' sl15; replace sl16 := gs 16 z' sl16; replace sl17 := gs 17 z' sl17; have sl223 := gu 223 z'; clear z' sl20 sl21 sl205; refine listF_nil ?_
            repeat ((fail_if_success refine stp ?_); with_reducible go_step)
            refine cond_f ?_
            repeat ((fail_if_success refine stp ?_); with_reducible go_step)
            clear cb4_0 cb4_1 cb4_2; exact ⟨rfl, _, rfl, (by rw [sl15]; exact congrArg _ Hbel.out.symm), (sl2.trans hj72_2.out.symm), (sl4.trans hj72_4.out.symm), (sl7.trans hj72_7.out.symm), (sl8.trans hj72_8.out.symm), (sl13.trans hj72_13.out.symm), (sl16.trans hj72_16.out.symm), (sl17.trans hj72_17.out.symm), HL73.out⟩
         ·skip
          have Hbel := hid (show belUp nd (strQ l y) (i + 1) = belUp nd (strQ l y) i by show (if strQ l y i < nd then _ else _) = _; rw [if_neg (by rw [Hxe.out]; simpa using h199)])
          repeat ((fail_if_success refine stp ?_); with_reducible go_step)
          exact ⟨rfl, _, rfl, (by rw [sl15]; exact congrArg _ Hbel.out.symm), (sl2.trans hj72_2.out.symm), (sl4.trans hj72_4.out.symm), (sl7.trans hj72_7.out.symm), (sl8.trans hj72_8.out.symm), (sl13.trans hj72_13.out.symm), (sl16.trans hj72_16.out.symm), (sl17.trans hj72_17.out.symm), HL73.out⟩
        ·skip
         clear sl15 sl199; rintro s89 w90 ⟨sl15, e2, e4, e7, e8, e13, e16, e17, hb91⟩; replace sl2 := e2.trans sl2; clear e2 hj72_2; replace sl4 := e4.trans sl4; clear e4 hj72_4; replace sl7 := e7.trans sl7; clear e7 hj72_7; replace sl8 := e8.trans sl8; clear e8 hj72_8; replace sl13 := e13.trans sl13; clear e13 hj72_13; replace sl16 := e16.trans sl16; clear e16 hj72_16; replace sl17 := e17.trans sl17; clear e17 hj72_17; clear qb3 qb4 qb18; replace kb3 := kb3.oldB hb91 (by first | (simp; done) | (simp; omega)); replace kb4 := kb4.oldB hb91 (by first | (simp; done) | (simp; omega)); replace kb18 := kb18.oldB hb91 (by first | (simp; done) | (simp; omega)); replace HLg := hid (HLg.out.more hb91 (by simp; try omega)); replace HL51 := hid (HL51.out.more hb91 (by simp; try omega)); replace HB := hid (HB.out.more hb91 (by simp; try omega)); clear hb91; have qb3 := kb3.1; have qb4 := kb4.1; have qb18 := kb18.1
         repeat ((fail_if_success refine stp ?_); with_reducible go_step)
         refine region_F ?_
         iterate 3 refine pl ?_
         refine listF_abs (fun s92 z' => ?_); replace sl2 := gs 2 z' sl2; replace sl4 := gs 4 z' sl4; replace sl7 := gs 7 z' sl7; replace sl8 := gs 8 z' sl8; replace sl13 := gs 13 z' sl13; replace sl15 := gs 15 z' sl15; replace sl16 := gs 16 z' sl16; replace sl17 := gu 17 z'; clear z'; refine listF_nil ?_
         repeat ((fail_if_success refine stp ?_); with_reducible go_step)
         refine ⟨_, _, rfl, ?_, i + 1, rfl, (by first | (with_reducible exact sl15) | (rw [sl15]; (with_reducible go_num); done) | (rw [sl15, IntWalk.i64_in] <;> first | ((with_reducible go_num); done) | omega) | (rw [sl15]; go_num; done) | (rw [sl15]; simp; done) | (rw [sl15]; simp; omega)), (by first | (with_reducible exact sl16) | (rw [sl16]; (with_reducible go_num); done) | (rw [sl16, IntWalk.i64_in] <;> first | ((with_reducible go_num); done) | omega) | (rw [sl16]; go_num; done) | (rw [sl16]; simp; done) | (rw [sl16]; simp; omega)), (by first | (with_reducible exact sl17) | (rw [sl17]; (with_reducible go_num); done) | (rw [sl17, IntWalk.i64_in] <;> first | ((with_reducible go_num); done) | omega) | (rw [sl17]; go_num; done) | (rw [sl17]; simp; done) | (rw [sl17]; simp; omega)), (sl2.trans hc1_2.out.symm), (sl4.trans hc1_4.out.symm), (sl7.trans hc1_7.out.symm), (sl8.trans hc1_8.out.symm), (sl13.trans hc1_13.out.symm), HL51.out, by omega⟩
         omega
      case dep37 =>
        iterate 18 refine dR ?_
        exact depR_nil
     ·skip
      have hiA : i = l.length := by have := HG.out.al; have h := h152; simp at h; omega
      subst hiA; obtain ⟨zb, hzb⟩ : ∃ z, belUp nd (strQ l y) l.length = z := ⟨_, rfl⟩; rw [hzb] at sl15; have hin := HG.out.inn (strQ l y) (fun j hj => strQ_in hj (HG.out.sp j hj).2.2); rw [Hnd.out, hzb] at hin; have Hfin := hid hin; clear hin hzb
      repeat ((fail_if_success refine stp ?_); with_reducible go_step)
      clear HL51; clear hc1_2 hc1_4 hc1_7 hc1_8 hc1_13
      cases p
      ·skip
       by_cases hz : zb = 0
       ·skip
        refine region_F ?_
        iterate 3 refine pl ?_
        have cb4_0 := kb4.cell 0 rfl; have cb4_1 := kb4.cell 1 rfl; have cb4_2 := kb4.cell 2 rfl
        iterate 3 refine pl ?_
        refine pn true ?_; refine pl ?_; refine pl ?_; refine listF_yes rfl rfl (by decide) ?_ (fun K' hK => ?_); (focus (go_simp; done)); unfold opF; go_simp; refine (awake_any _).mono ?_; rintro e w93 ⟨rfl, hb94⟩; refine ⟨_, rfl, hK _ _ ?_⟩; clear hK K'; clear cb4_0 cb4_1 cb4_2; clear qb3 qb4; replace kb3 := kb3.at hb94; replace kb4 := kb4.at hb94; replace HLg := hid (HLg.out.below hb94); replace HB := hid (HB.out.below hb94); clear hb94; have qb3 := kb3.1; have qb4 := kb4.1; refine pl ?_; refine pl ?_; refine listF_abs (fun s95 z' => ?_); have sl6 := gu 6 z'; clear z' sl2 sl4 sl7 sl8 sl13 sl15 sl16 sl17 sl152; refine listF_nil ?_
        repeat ((fail_if_success refine stp ?_); with_reducible go_step)
        refine ret_F _ (res_t Try.results14 ((getD_F (by decide)).trans sl6)) ?_; exact ⟨rfl, HB.out.toBelow⟩
       ·skip
        refine region_F ?_; rw [Hfin.out (by simp [hz])] at sl16
        iterate 3 refine pl ?_
        have cb4_0 := kb4.cell 0 rfl; have cb4_1 := kb4.cell 1 rfl; have cb4_2 := kb4.cell 2 rfl
        iterate 3 refine pl ?_
        refine py ?_; refine pl ?_; refine pl ?_; refine listF_yes rfl rfl (by decide) ?_ (fun K' hK => ?_); (focus (go_simp; done)); unfold opF; go_simp; refine (awake_any _).mono ?_; rintro e w96 ⟨rfl, hb97⟩; refine ⟨_, rfl, hK _ _ ?_⟩; clear hK K'; clear cb4_0 cb4_1 cb4_2; clear qb3 qb4; replace kb3 := kb3.at hb97; replace kb4 := kb4.at hb97; replace HLg := hid (HLg.out.below hb97); replace HB := hid (HB.out.below hb97); clear hb97; have qb3 := kb3.1; have qb4 := kb4.1; refine pl ?_; refine pl ?_; refine listF_abs (fun s98 z' => ?_); have sl6 := gu 6 z'; clear z' sl2 sl4 sl7 sl8 sl13 sl15 sl16 sl17 sl152; refine listF_nil ?_
        repeat ((fail_if_success refine stp ?_); with_reducible go_step)
        refine ret_F _ (res_t Try.results14 ((getD_F (by decide)).trans sl6)) ?_; exact ⟨rfl, HB.out.toBelow⟩
      ·skip
       by_cases hz : zb = 0
       ·skip
        refine region_F ?_; rw [Hfin.out (by simp [hz])] at sl16
        iterate 3 refine pl ?_
        have cb4_0 := kb4.cell 0 rfl; have cb4_1 := kb4.cell 1 rfl; have cb4_2 := kb4.cell 2 rfl
        iterate 3 refine pl ?_
        refine py ?_; refine pl ?_; refine pl ?_; refine listF_yes rfl rfl (by decide) ?_ (fun K' hK => ?_); (focus (go_simp; done)); unfold opF; go_simp; refine (awake_any _).mono ?_; rintro e w99 ⟨rfl, hb100⟩; refine ⟨_, rfl, hK _ _ ?_⟩; clear hK K'; clear cb4_0 cb4_1 cb4_2; clear qb3 qb4; replace kb3 := kb3.at hb100; replace kb4 := kb4.at hb100; replace HLg := hid (HLg.out.below hb100); replace HB := hid (HB.out.below hb100); clear hb100; have qb3 := kb3.1; have qb4 := kb4.1; refine pl ?_; refine pl ?_; refine listF_abs (fun s101 z' => ?_); have sl6 := gu 6 z'; clear z' sl2 sl4 sl7 sl8 sl13 sl15 sl16 sl17 sl152; refine listF_nil ?_
        repeat ((fail_if_success refine stp ?_); with_reducible go_step)
        refine ret_F _ (res_t Try.results14 ((getD_F (by decide)).trans sl6)) ?_; exact ⟨rfl, HB.out.toBelow⟩
       ·skip
        refine region_F ?_
        iterate 3 refine pl ?_
        have cb4_0 := kb4.cell 0 rfl; have cb4_1 := kb4.cell 1 rfl; have cb4_2 := kb4.cell 2 rfl
        iterate 3 refine pl ?_
        refine pn true ?_; refine pl ?_; refine pl ?_; refine listF_yes rfl rfl (by decide) ?_ (fun K' hK => ?_); (focus (go_simp; done)); unfold opF; go_simp; refine (awake_any _).mono ?_; rintro e w102 ⟨rfl, hb103⟩; refine ⟨_, rfl, hK _ _ ?_⟩; clear hK K'; clear cb4_0 cb4_1 cb4_2; clear qb3 qb4; replace kb3 := kb3.at hb103; replace kb4 := kb4.at hb103; replace HLg := hid (HLg.out.below hb103); replace HB := hid (HB.out.below hb103); clear hb103; have qb3 := kb3.1; have qb4 := kb4.1; refine pl ?_; refine pl ?_; refine listF_abs (fun s104 z' => ?_); have sl6 := gu 6 z'; clear z' sl2 sl4 sl7 sl8 sl13 sl15 sl16 sl17 sl152; refine listF_nil ?_
        repeat ((fail_if_success refine stp ?_); with_reducible go_step)
        refine ret_F _ (res_t Try.results14 ((getD_F (by decide)).trans sl6)) ?_; exact ⟨rfl, HB.out.toBelow⟩
 ·skip
  have he1 : (er != 0) = true := by simpa using he
  obtain ⟨rfl, rfl⟩ := grp_zero HA.out he; refine region_F ?_; refine pl ?_; refine pl ?_; refine listF_abs (fun s105 z' => ?_); replace sl2 := gs 2 z' sl2; replace sl3 := gs 3 z' sl3; replace sl4 := gs 4 z' sl4; replace sl7 := gs 7 z' sl7; replace sl8 := gs 8 z' sl8; have sl35 := gu 35 z'; clear z' sl9; refine listF_nil ?_
  repeat ((fail_if_success refine stp ?_); with_reducible go_step)
  refine cond_t ?_
  repeat ((fail_if_success refine stp ?_); with_reducible go_step)
  refine region_F ?_
  iterate 4 refine pl ?_
  iterate 3 refine py ?_
  refine pl ?_; refine pl ?_; refine listF_yes rfl rfl (by decide) ?_ (fun K' hK => ?_); (focus (go_simp; done)); unfold opF; go_simp; refine (awake_any _).mono ?_; rintro e w106 ⟨rfl, hb107⟩; refine ⟨_, rfl, hK _ _ ?_⟩; clear hK K'; clear qb3 qb4; replace kb3 := kb3.at hb107; replace kb4 := kb4.at hb107; replace HLg := hid (HLg.out.below hb107); replace HB := hid (HB.out.below hb107); clear hb107; have qb3 := kb3.1; have qb4 := kb4.1; refine pl ?_; refine pl ?_; refine listF_abs (fun s108 z' => ?_); have sl6 := gu 6 z'; clear z' sl2 sl3 sl4 sl7 sl8 sl35; refine listF_nil ?_
  repeat ((fail_if_success refine stp ?_); with_reducible go_step)
  refine ret_F _ (res_t Try.results14 ((getD_F (by decide)).trans sl6)) ?_; exact ⟨rfl, HB.out.toBelow⟩

end Go.Proofs.Ytndcmmghgljinaa
