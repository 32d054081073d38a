/- The contracts of what a valve does. -/
import Derived.Test.YtndcmmghgljinaardW2
set_option linter.all false
namespace Go.Proofs.Ytndcmmghgljinaa

open Go.RowKit


def spanIn (s : Span) : Prop := (-2000000 ≤ s.lo ∧ s.lo ≤ 2000000) ∧ (-2000000 ≤ s.hi ∧ s.hi ≤ 2000000)
theorem mul_bd {d x : Int} (h1 : -200000 ≤ d) (h2 : d ≤ 200000) (h3 : 0 ≤ x) (h4 : x ≤ 1000) : -200000000 ≤ d * x ∧ d * x ≤ 200000000 := by
  constructor
  · have := Int.mul_le_mul_of_nonneg_right (c := x) h1 h3
    have : (-200000 : Int) * 1000 ≤ -200000 * x := by omega
    omega
  · have := Int.mul_le_mul_of_nonneg_right (c := x) h2 h3
    have : (200000 : Int) * x ≤ 200000 * 1000 := by omega
    omega
theorem below_div {s n w h : Int} (h1 : ¬ s < n) (h2 : ¬ n = 0) (h3 : 0 < w) : failAt h (below s n w) = h + (s - n) / w + 1 := by
  unfold below failAt; rw [if_neg h1, if_neg (show ¬ (n = 0 ∨ w = 0) by omega)]
  have e : (s - n + w) / w = (s - n) / w + 1 := by
    have := Int.add_mul_ediv_right (s - n) 1 (c := w) (by omega); rwa [Int.one_mul] at this
  have : 0 ≤ (s - n) / w := Int.ediv_nonneg (by omega) (by omega); rw [e, if_neg (by omega)]; omega
theorem ite_max (x s : Int) : (if x < s then s - x else 0) = max 0 (s - x) := by omega

set_option maxRecDepth 100000 in
set_option maxHeartbeats 1000000 in
theorem wait_any (V : Nat) (k : Kd) (a : Option Addr) (c : Nat) (s : Span) (h : Int) (t : Int) (w : World) (hV : Cells w V (vC k a c s h)) (hK : KOk k) (hs : spanIn s) (h0 : 0 ≤ h ∧ h ≤ 100000) (h1 : 0 ≤ t ∧ t ≤ 100000) :
    Calls Try.prog 74 #[.pointer (some ⟨V, 0, none⟩), .int .i64 t] w (fun e w' => e = .returned (.tuple #[]) ∧ Cells w' V (vC k a c (later k s (t - h)) t) ∧ OldB [V] w w') := by
 obtain ⟨⟨hs1, hs2⟩, hs3, hs4⟩ := hs; have hw0 := hK.w0; have hw1 := hK.w1; have hw2 := hK.w2; obtain ⟨m1, m2⟩ := mul_bd (d := t - h) (x := k.wear.hi) (by omega) (by omega) (by omega) (by omega); obtain ⟨m3, m4⟩ := mul_bd (d := t - h) (x := k.wear.lo) (by omega) (by omega) (by omega) (by omega); have w1 : IntKind.i64.wrap (t - h) = t - h := IntWalk.i64_in _ (by omega); have w2 : IntKind.i64.wrap ((t - h) * k.wear.hi) = (t - h) * k.wear.hi := IntWalk.i64_in _ (by omega); have w3 : IntKind.i64.wrap ((t - h) * k.wear.lo) = (t - h) * k.wear.lo := IntWalk.i64_in _ (by omega); have w4 : IntKind.i64.wrap (s.lo - (t - h) * k.wear.hi) = s.lo - (t - h) * k.wear.hi := IntWalk.i64_in _ (by omega); have w5 : IntKind.i64.wrap (s.hi - (t - h) * k.wear.lo) = s.hi - (t - h) * k.wear.lo := IntWalk.i64_in _ (by omega); clear hK m1 m2 m3 m4 hs1 hs2 hs3 hs4 hw0 hw1 hw2 h0 h1; have kV := hV
 refine enter_F Try.func74 rfl Try.ntmps74 (by simp) ?_
 intro s0 hs; have sl0 : s0 0 = .pointer (some ⟨V, 0, none⟩) := hs 0 (by simp); have sl1 : s0 1 = .int .i64 t := hs 1 (by simp); clear hs; have HB := hid (OldB.refl [V] w); have qV := kV.1
 repeat ((fail_if_success refine stp ?_); with_reducible go_step)
 refine region_F ?_
 iterate 4 refine pl ?_
 have cV_0 := kV.cell 0 rfl; have cV_1 := kV.cell 1 rfl; have cV_2 := kV.cell 2 rfl; have cV_3 := kV.cell 3 rfl; have cV_4 := kV.cell 4 rfl; have cV_5 := kV.cell 5 rfl; have cV_6 := kV.cell 6 rfl
 iterate 3 refine pl ?_
 refine listF_abs (fun s1 z' => ?_); replace sl0 := gs 0 z' sl0; replace sl1 := gs 1 z' sl1; have sl4 := gu 4 z'; clear z'; refine listF_nil ?_
 repeat ((fail_if_success refine stp ?_); with_reducible go_step)
 refine regionR_F [V] [(vC k a c s h)] [45] [.q [], .q [], .q [], .q [], .q [], .q [], .q [], .q [45], .q [], .q [], .q [], .q [], .q [], .q [], .q [45], .q [], .q [], .q [], .q [], .q [], .q [], .q [], .q [45], .q [], .q [], .q [], .q [], .q [], .q [], .q [45], .q [], .q [], .q [], .q [], .q [], .q [], .q [], .st 45, .q [], .q [], .q [], .st 45] [?v1_0, ?v1_1, ?v1_2, ?v1_3, ?v1_4, ?v1_5, ?v1_6, ?v1_7, ?v1_8, ?v1_9, ?v1_10, ?v1_11, ?v1_12, ?v1_13, ?v1_14, ?v1_15, ?v1_16, ?v1_17, ?v1_18, ?v1_19, ?v1_20, ?v1_21, ?v1_22, ?v1_23, ?v1_24, ?v1_25, ?v1_26, ?v1_27, ?v1_28, ?v1_29, ?v1_30, ?v1_31, ?v1_32, ?v1_33, ?v1_34, ?v1_35, ?v1_36, fun _ => undef, ?v1_38, ?v1_39, ?v1_40, fun _ => undef] [fun _ => [], fun _ => [], fun _ => [], fun _ => [], fun _ => [], fun _ => [], fun _ => [], fun _ => [], fun _ => [], fun _ => [], fun _ => [], fun _ => [], fun _ => [], fun _ => [], fun _ => [], fun _ => [], fun _ => [], fun _ => [], fun _ => [], fun _ => [], fun _ => [], fun _ => [], fun _ => [], fun _ => [], fun _ => [], fun _ => [], fun _ => [], fun _ => [], fun _ => [], fun _ => [], fun _ => [], fun _ => [], fun _ => [], fun _ => [], fun _ => [], fun _ => [], fun _ => [], ?c1_37, fun _ => [], fun _ => [], fun _ => [], ?c1_41] (by kernel_rfl) (by kernel_rfl) (by kernel_rfl) (by kernel_rfl) (by kernel_rfl) (by first | exact List.nodup_nil | exact List.nodup_singleton _ | (simp; done) | (simp; omega)) (bc_cons (by repeat (first | (with_reducible exact kV) | (with_reducible refine Cells.drew ?_) | (with_reducible refine Cells.up ?_ _) | (with_reducible refine Cells.setFar ?_ (by omega)))) bc_nil) ?walk1 ?dep1
 case walk1 =>
  iterate 7 refine rq ?_
  refine walkR_q (by rfl) (fun X hX wq hwq hrq => ?_) ?_
  · obtain ⟨hcq, hfq⟩ := hwq.b1
    have kq45 := hrq 45 (by simp); rw [show X 45 = V from hX.at0 0 _ rfl] at kq45; replace kq45 : Cells wq V ((vC k a c s h)) := kq45; have kqs45 := kq45.1; have kq45_0 := kq45.cell 0 rfl; have kq45_1 := kq45.cell 1 rfl; have kq45_2 := kq45.cell 2 rfl; have kq45_3 := kq45.cell 3 rfl; have kq45_4 := kq45.cell 4 rfl; have kq45_5 := kq45.cell 5 rfl; have kq45_6 := kq45.cell 6 rfl; clear hrq; go_simp
    (first | rfl | exact ⟨rfl, rfl⟩)
  iterate 6 refine rq ?_
  refine walkR_q (by rfl) (fun X hX wq hwq hrq => ?_) ?_
  · obtain ⟨hcq, hfq⟩ := hwq.b1
    have kq45 := hrq 45 (by simp); rw [show X 45 = V from hX.at0 0 _ rfl] at kq45; replace kq45 : Cells wq V ((vC k a c s h)) := kq45; have kqs45 := kq45.1; have kq45_0 := kq45.cell 0 rfl; have kq45_1 := kq45.cell 1 rfl; have kq45_2 := kq45.cell 2 rfl; have kq45_3 := kq45.cell 3 rfl; have kq45_4 := kq45.cell 4 rfl; have kq45_5 := kq45.cell 5 rfl; have kq45_6 := kq45.cell 6 rfl; clear hrq; go_simp
    (first | rfl | exact ⟨rfl, rfl⟩)
  iterate 7 refine rq ?_
  refine walkR_q (by rfl) (fun X hX wq hwq hrq => ?_) ?_
  · obtain ⟨hcq, hfq⟩ := hwq.b1
    have kq45 := hrq 45 (by simp); rw [show X 45 = V from hX.at0 0 _ rfl] at kq45; replace kq45 : Cells wq V ((vC k a c s h)) := kq45; have kqs45 := kq45.1; have kq45_0 := kq45.cell 0 rfl; have kq45_1 := kq45.cell 1 rfl; have kq45_2 := kq45.cell 2 rfl; have kq45_3 := kq45.cell 3 rfl; have kq45_4 := kq45.cell 4 rfl; have kq45_5 := kq45.cell 5 rfl; have kq45_6 := kq45.cell 6 rfl; clear hrq; go_simp
    (first | rfl | exact ⟨rfl, rfl⟩)
  iterate 6 refine rq ?_
  refine walkR_q (by rfl) (fun X hX wq hwq hrq => ?_) ?_
  · obtain ⟨hcq, hfq⟩ := hwq.b1
    have kq45 := hrq 45 (by simp); rw [show X 45 = V from hX.at0 0 _ rfl] at kq45; replace kq45 : Cells wq V ((vC k a c s h)) := kq45; have kqs45 := kq45.1; have kq45_0 := kq45.cell 0 rfl; have kq45_1 := kq45.cell 1 rfl; have kq45_2 := kq45.cell 2 rfl; have kq45_3 := kq45.cell 3 rfl; have kq45_4 := kq45.cell 4 rfl; have kq45_5 := kq45.cell 5 rfl; have kq45_6 := kq45.cell 6 rfl; clear hrq; go_simp
    (first | rfl | exact ⟨rfl, rfl⟩)
  iterate 7 refine rq ?_
  refine walkR_st (by rfl) (fun X hX wq hwq hkq => ?_) ?_
  · rw [show X 45 = V from hX.at0 0 _ rfl] at hkq ⊢
    replace hkq : Cells wq V ((vC k a c s h)) := hkq; have hks := hkq.1; have hkz := hkq.2.2; have hk0 := hkq.cell 0 rfl; have hk1 := hkq.cell 1 rfl; have hk2 := hkq.cell 2 rfl; have hk3 := hkq.cell 3 rfl; have hk4 := hkq.cell 4 rfl; have hk5 := hkq.cell 5 rfl; have hk6 := hkq.cell 6 rfl; go_simp
    (first | ((with_reducible refine writeB_mk (Cells.set hkq) ?_ ?_); (focus (repeat (first | (with_reducible exact Only.refl _ _) | (with_reducible refine Only.set ?_)))); rfl))
  iterate 3 refine rq ?_
  refine walkR_st (by rfl) (fun X hX wq hwq hkq => ?_) ?_
  · rw [show X 45 = V from hX.at0 0 _ rfl] at hkq ⊢
    simp only [updC_some, updC_none, Nat.reduceEqDiff, ↓reduceIte] at hkq
    have hks := hkq.1; have hkz := hkq.2.2; have hk0 := hkq.cell 0 rfl; have hk1 := hkq.cell 1 rfl; have hk2 := hkq.cell 2 rfl; have hk3 := hkq.cell 3 rfl; have hk4 := hkq.cell 4 rfl; have hk5 := hkq.cell 5 rfl; have hk6 := hkq.cell 6 rfl; go_simp
    (first | ((with_reducible refine writeB_mk (Cells.set hkq) ?_ ?_); (focus (repeat (first | (with_reducible exact Only.refl _ _) | (with_reducible refine Only.set ?_)))); rfl))
  refine walkR_nil (fun X hX w2 hwz hcz => ?_); have kz0 := hcz 45 (by simp); rw [show X 45 = V from hX.at0 0 _ rfl] at kz0
  simp only [updC_some, updC_none, Nat.reduceEqDiff, ↓reduceIte] at kz0
  clear hX hcz
  (try clear X)
  skip; have hb3 := hwz.unDrew; clear hwz
  (try simp only [vC, List.set_cons_zero, List.set_cons_succ] at kz0)
  clear cV_0 cV_1 cV_2 cV_3 cV_4 cV_5 cV_6; clear qV; replace kV := kz0; replace HB := hid (HB.out.more hb3 (by simp; try omega)); clear hb3; have qV := kV.1; clear kz0; refine pl ?_; refine pl ?_; have cV_0 := kV.cell 0 rfl; have cV_1 := kV.cell 1 rfl; have cV_2 := kV.cell 2 rfl; have cV_3 := kV.cell 3 rfl; have cV_4 := kV.cell 4 rfl; have cV_5 := kV.cell 5 rfl; have cV_6 := kV.cell 6 rfl; have zV := kV.2.2; refine pl ?_; refine listF_absw (fun w4 hw' => ?_); have kV' := cells_of hw' (Cells.set (i := 6) (kV))
  (try simp only [vC, List.set_cons_zero, List.set_cons_succ] at kV')
  have hb5 : OldB [V] w2 w4 := oldset hw'; clear hw'; clear cV_0 cV_1 cV_2 cV_3 cV_4 cV_5 cV_6 zV; clear qV; replace kV := kV'; replace HB := hid (HB.out.more hb5 (by simp; try omega)); clear hb5; have qV := kV.1; clear kV'; refine listF_abs (fun s6 z' => ?_); clear z' sl0 sl1 sl4; refine listF_nil ?_
  repeat ((fail_if_success refine stp ?_); with_reducible go_step)
  refine norm_F _ (res_none Try.results74) ?_
  simp only [ite_max] at kV
  exact ⟨rfl, kV, HB.out⟩
 case dep1 =>
   iterate 42 refine dR ?_
   exact depR_nil

set_option maxRecDepth 100000 in
set_option maxHeartbeats 1000000 in
theorem result_any (V : Nat) (k : Kd) (a : Option Addr) (c : Nat) (s : Span) (h : Int) (v : Int) (p : Bool) (w : World) (hV : Cells w V (vC k a c s h)) (hR : RdSteps w a k.steps) (hK : KOk k) (hv : voltOk k v = true) :
    Calls Try.prog 57 #[.pointer (some ⟨V, 0, none⟩), .int .i64 v, .bool p] w (fun e w' => e = .returned (.agg #[.int .i64 (agreed k s v p).lo, .int .i64 (agreed k s v p).hi]) ∧ Below w.heap.size w w') := by
 have HV := hid hV; have HK := hid hK; have HR := hid hR; have Hv := hid hv; obtain ⟨n1, n2⟩ := needed_bd hK hv; have wn : IntKind.i64.wrap (needed k v - 1) = needed k v - 1 := IntWalk.i64_in _ (by omega); clear hR hK hv n1 n2; have kV := hV
 refine enter_F Try.func57 rfl Try.ntmps57 (by simp) ?_
 intro s0 hs; have sl0 : s0 0 = .pointer (some ⟨V, 0, none⟩) := hs 0 (by simp); have sl1 : s0 1 = .int .i64 v := hs 1 (by simp); have sl2 : s0 2 = .bool p := hs 2 (by simp); clear hs; have HB := hid (OldB.refl [] w); have qV := kV.1
 repeat ((fail_if_success refine stp ?_); with_reducible go_step)
 refine region_F ?_; refine pa (fun w1 B6 hB kb6' hb2 => ?_); have gb6 := HB.out.gB hB; have oV_b6 := oB qV hB; have eb6 := eB hB; clear hB; clear qV; replace kV := kV.at hb2; replace HB := hid (HB.out.below hb2); clear hb2; have qV := kV.1; have kb6 := kb6'; clear kb6'; have qb6 := kb6.1; refine listF_abs (fun s3 z' => ?_); replace sl0 := gs 0 z' sl0; replace sl1 := gs 1 z' sl1; replace sl2 := gs 2 z' sl2; have sl6 := gu 6 z'; clear z'; refine listF_nil ?_
 repeat ((fail_if_success refine stp ?_); with_reducible go_step)
 refine region_F ?_
 iterate 3 refine pl ?_
 have cV_0 := kV.cell 0 rfl; have cV_1 := kV.cell 1 rfl; have cV_2 := kV.cell 2 rfl; have cV_3 := kV.cell 3 rfl; have cV_4 := kV.cell 4 rfl; have cV_5 := kV.cell 5 rfl; have cV_6 := kV.cell 6 rfl; refine pl ?_; have cb6_0 := kb6.cell 0 rfl; have cb6_1 := kb6.cell 1 rfl; have zb6 := kb6.2.2; refine pl ?_; refine listF_absw (fun w4 hw' => ?_); have kb6' := cells_of hw' (Cells.set (i := 1) (Cells.set (i := 0) (kb6)))
 (try simp only [vC, List.set_cons_zero, List.set_cons_succ] at kb6')
 have hb5 : OldB [B6] w1 w4 := oldset hw'; clear hw'; clear cV_0 cV_1 cV_2 cV_3 cV_4 cV_5 cV_6 cb6_0 cb6_1 zb6; clear qV qb6; replace kb6 := kb6'; replace kV := kV.oldB hb5 (by first | (simp; done) | (simp; omega)); replace HB := hid (HB.out.more hb5 (by simp; try omega)); clear hb5; have qV := kV.1; have qb6 := kb6.1; clear kb6'; refine listF_abs (fun s6 z' => ?_); replace sl0 := gs 0 z' sl0; replace sl1 := gs 1 z' sl1; replace sl2 := gs 2 z' sl2; replace sl6 := gs 6 z' sl6; clear z'; refine listF_nil ?_
 repeat ((fail_if_success refine stp ?_); with_reducible go_step)
 refine region_F ?_; refine pl ?_; refine pl ?_; refine listF_step rfl (fun K' hK => ?_); unfold opF; go_simp; refine (need_any V k a c s h v _ kV (Rd.oldB HR.out HB.out (by simp)) HK.out Hv.out).mono ?_; rintro e w7 ⟨rfl, hb8⟩; refine ⟨_, rfl, hK _ _ ?_⟩; clear hK K'; clear qV qb6; replace kV := kV.at hb8; replace kb6 := kb6.at hb8; replace HB := hid (HB.out.below hb8); clear hb8; have qV := kV.1; have qb6 := kb6.1; refine pl ?_; refine listF_abs (fun s9 z' => ?_); replace sl2 := gs 2 z' sl2; replace sl6 := gs 6 z' sl6; have sl7 := gu 7 z'; clear z' sl0 sl1; refine listF_nil ?_
 repeat ((fail_if_success refine stp ?_); with_reducible go_step)
 refine region_F ?_; refine pl ?_; refine listF_abs (fun s10 z' => ?_); replace sl6 := gs 6 z' sl6; replace sl7 := gs 7 z' sl7; have sl15 := gu 15 z'; clear z' sl2; refine listF_nil ?_
 repeat ((fail_if_success refine stp ?_); with_reducible go_step)
 refine cond_E sl15 (by decide) ?_ ?_ <;> (clear sl15; intro h15 sl15)
 ·skip
  repeat ((fail_if_success refine stp ?_); with_reducible go_step)
  refine region_F ?_; refine pl ?_; have cb6_0 := kb6.cell 0 rfl; have cb6_1 := kb6.cell 1 rfl
  iterate 4 refine pl ?_
  have zb6 := kb6.2.2; refine pl ?_; refine listF_absw (fun w11 hw' => ?_); have kb6' := cells_of hw' (Cells.set (i := 0) (kb6))
  (try simp only [vC, List.set_cons_zero, List.set_cons_succ] at kb6')
  have hb12 : OldB [B6] w7 w11 := oldset hw'; clear hw'; clear cb6_0 cb6_1 zb6; clear qV qb6; replace kb6 := kb6'; replace kV := kV.oldB hb12 (by first | (simp; done) | (simp; omega)); replace HB := hid (HB.out.more hb12 (by simp; try omega)); clear hb12; have qV := kV.1; have qb6 := kb6.1; clear kb6'; refine listF_abs (fun s13 z' => ?_); replace sl6 := gs 6 z' sl6; clear z' sl7 sl15; refine listF_nil ?_
  repeat ((fail_if_success refine stp ?_); with_reducible go_step)
  refine region_F ?_; have cb6_0 := kb6.cell 0 rfl; have cb6_1 := kb6.cell 1 rfl; refine pl ?_; have zb6 := kb6.2.2; refine pl ?_; refine listF_absw (fun w14 hw' => ?_); have kb6' := cells_of hw' (Cells.set (i := 1) (Cells.set (i := 0) (kb6)))
  (try simp only [vC, List.set_cons_zero, List.set_cons_succ] at kb6')
  have hb15 : OldB [B6] w11 w14 := oldset hw'; clear hw'; clear cb6_0 cb6_1 zb6; clear qV qb6; replace kb6 := kb6'; replace kV := kV.oldB hb15 (by first | (simp; done) | (simp; omega)); replace HB := hid (HB.out.more hb15 (by simp; try omega)); clear hb15; have qV := kV.1; have qb6 := kb6.1; clear kb6'; refine listF_abs (fun s16 z' => ?_); replace sl6 := gs 6 z' sl6; clear z'; refine listF_nil ?_
  repeat ((fail_if_success refine stp ?_); with_reducible go_step)
  have cb6_0 := kb6.cell 0 rfl; have cb6_1 := kb6.cell 1 rfl; refine ret_F _ (res_c Try.results57 ((getD_F (by decide)).trans sl6) (load_t23 cb6_0 cb6_1)) ?_; refine ⟨?_, HB.out.toBelow⟩; unfold agreed; simp only [h15, if_true, Bool.false_eq_true, if_false]
  first | rfl | (congr 4 <;> first | rfl | omega) | (simp; omega)
 ·skip
  repeat ((fail_if_success refine stp ?_); with_reducible go_step)
  refine region_F ?_; refine pl ?_; have cb6_0 := kb6.cell 0 rfl; have cb6_1 := kb6.cell 1 rfl
  iterate 5 refine pl ?_
  have zb6 := kb6.2.2; refine pl ?_; refine listF_absw (fun w17 hw' => ?_); have kb6' := cells_of hw' (Cells.set (i := 1) (kb6))
  (try simp only [vC, List.set_cons_zero, List.set_cons_succ] at kb6')
  have hb18 : OldB [B6] w7 w17 := oldset hw'; clear hw'; clear cb6_0 cb6_1 zb6; clear qV qb6; replace kb6 := kb6'; replace kV := kV.oldB hb18 (by first | (simp; done) | (simp; omega)); replace HB := hid (HB.out.more hb18 (by simp; try omega)); clear hb18; have qV := kV.1; have qb6 := kb6.1; clear kb6'; refine listF_abs (fun s19 z' => ?_); replace sl6 := gs 6 z' sl6; clear z' sl7 sl15; refine listF_nil ?_
  repeat ((fail_if_success refine stp ?_); with_reducible go_step)
  refine region_F ?_; have cb6_0 := kb6.cell 0 rfl; have cb6_1 := kb6.cell 1 rfl; refine pl ?_; have zb6 := kb6.2.2; refine pl ?_; refine listF_absw (fun w20 hw' => ?_); have kb6' := cells_of hw' (Cells.set (i := 1) (Cells.set (i := 0) (kb6)))
  (try simp only [vC, List.set_cons_zero, List.set_cons_succ] at kb6')
  have hb21 : OldB [B6] w17 w20 := oldset hw'; clear hw'; clear cb6_0 cb6_1 zb6; clear qV qb6; replace kb6 := kb6'; replace kV := kV.oldB hb21 (by first | (simp; done) | (simp; omega)); replace HB := hid (HB.out.more hb21 (by simp; try omega)); clear hb21; have qV := kV.1; have qb6 := kb6.1; clear kb6'; refine listF_abs (fun s22 z' => ?_); replace sl6 := gs 6 z' sl6; clear z'; refine listF_nil ?_
  repeat ((fail_if_success refine stp ?_); with_reducible go_step)
  have cb6_0 := kb6.cell 0 rfl; have cb6_1 := kb6.cell 1 rfl; refine ret_F _ (res_c Try.results57 ((getD_F (by decide)).trans sl6) (load_t23 cb6_0 cb6_1)) ?_; refine ⟨?_, HB.out.toBelow⟩; unfold agreed; simp only [h15, if_true, Bool.false_eq_true, if_false]
  first | rfl | (congr 4 <;> first | rfl | omega) | (simp; omega)

set_option maxRecDepth 100000 in
set_option maxHeartbeats 1000000 in
theorem fails1_any (s wr : Int) (n hour : Int) (N P V : Nat) (w : World) (hN : w.cell? ⟨N, 0, none⟩ = some (.int .i64 n)) (hP : w.cell? ⟨P, 0, none⟩ = some (.pointer (some ⟨V, 0, none⟩))) (hV : w.cell? ⟨V, 6, none⟩ = some (.int .i64 hour)) (hs : -2000000 ≤ s ∧ s ≤ 2000000) (hn : 0 ≤ n ∧ n ≤ 1000000) (hw : 0 ≤ wr) (hh : 0 ≤ hour ∧ hour ≤ 100000) (hNs : N < w.heap.size) (hPs : P < w.heap.size) (hVs : V < w.heap.size) :
    Calls Try.prog 77 #[.int .i64 s, .int .i64 wr, .pointer (some ⟨N, 0, none⟩), .pointer (some ⟨P, 0, none⟩)] w (fun e w' => e = .returned (.int .i64 (failAt hour (below s n wr))) ∧ Below w.heap.size w w') := by
 obtain ⟨hs1, hs2⟩ := hs; obtain ⟨hn1, hn2⟩ := hn; obtain ⟨hh1, hh2⟩ := hh
 refine enter_F Try.func77 rfl Try.ntmps77 (by simp) ?_
 intro s0 hs; have sl0 : s0 0 = .int .i64 s := hs 0 (by simp); have sl1 : s0 1 = .int .i64 wr := hs 1 (by simp); have sl2 : s0 2 = .pointer (some ⟨N, 0, none⟩) := hs 2 (by simp); have sl3 : s0 3 = .pointer (some ⟨P, 0, none⟩) := hs 3 (by simp); clear hs; have HB := hid (OldB.refl [] w)
 repeat ((fail_if_success refine stp ?_); with_reducible go_step)
 refine region_F ?_; refine pl ?_; refine listF_abs (fun s1 z' => ?_); replace sl0 := gs 0 z' sl0; replace sl1 := gs 1 z' sl1; replace sl2 := gs 2 z' sl2; replace sl3 := gs 3 z' sl3; clear z'; refine listF_nil ?_
 repeat ((fail_if_success refine stp ?_); with_reducible go_step)
 refine region_F ?_
 iterate 4 refine pl ?_
 refine listF_abs (fun s2 z' => ?_); replace sl0 := gs 0 z' sl0; replace sl1 := gs 1 z' sl1; replace sl2 := gs 2 z' sl2; replace sl3 := gs 3 z' sl3; have sl7 := gu 7 z'; clear z'; refine listF_nil ?_
 repeat ((fail_if_success refine stp ?_); with_reducible go_step)
 refine cond_E sl7 (by decide) ?_ ?_ <;> (clear sl7; intro h7 sl7)
 ·skip
  have h7' : s < n := by simpa using h7
  repeat ((fail_if_success refine stp ?_); with_reducible go_step)
  refine region_F ?_
  iterate 5 refine pl ?_
  refine listF_abs (fun s3 z' => ?_); have sl6 := gu 6 z'; clear z' sl0 sl1 sl2 sl3 sl7; refine listF_nil ?_
  repeat ((fail_if_success refine stp ?_); with_reducible go_step)
  refine ret_F _ (res_t Try.results77 ((getD_F (by decide)).trans sl6)) ?_; exact ⟨ret_int (by unfold below failAt; rw [if_pos h7']; simp), HB.out.toBelow⟩
 ·skip
  have h7' : ¬ s < n := by simpa using h7
  repeat ((fail_if_success refine stp ?_); with_reducible go_step)
  refine region_F ?_
  iterate 3 refine pl ?_
  refine listF_abs (fun s4 z' => ?_); replace sl0 := gs 0 z' sl0; replace sl1 := gs 1 z' sl1; replace sl2 := gs 2 z' sl2; replace sl3 := gs 3 z' sl3; have sl18 := gu 18 z'; clear z' sl7
  refine boolG sl18 (fun sl18' h18 => ?_) (fun sl18' h18 => ?_) <;> (clear sl18; have sl18 := sl18'; clear sl18')
  ·skip
   have h18' : n = 0 := by simpa using h18
   refine pn true ?_; refine pn true ?_; refine pl ?_; refine pl ?_; refine listF_abs (fun s5 z' => ?_); replace sl0 := gs 0 z' sl0; replace sl1 := gs 1 z' sl1; replace sl2 := gs 2 z' sl2; replace sl3 := gs 3 z' sl3; have sl15 := gu 15 z'; clear z' sl18; refine listF_nil ?_
   repeat ((fail_if_success refine stp ?_); with_reducible go_step)
   refine cond_t ?_
   repeat ((fail_if_success refine stp ?_); with_reducible go_step)
   refine region_F ?_; refine pl ?_; refine listF_abs (fun s6 z' => ?_); have sl6 := gu 6 z'; clear z' sl0 sl1 sl2 sl3 sl15; refine listF_nil ?_
   repeat ((fail_if_success refine stp ?_); with_reducible go_step)
   refine ret_F _ (res_t Try.results77 ((getD_F (by decide)).trans sl6)) ?_; refine ⟨ret_int ?_, HB.out.toBelow⟩; unfold below failAt; rw [if_neg h7', if_pos (show n = 0 ∨ wr = 0 by omega)]; simp
  ·skip
   have h18' : ¬ n = 0 := by simpa using h18
   refine py ?_; refine py ?_; refine pl ?_; refine pl ?_; refine listF_abs (fun s7 z' => ?_); replace sl0 := gs 0 z' sl0; replace sl1 := gs 1 z' sl1; replace sl2 := gs 2 z' sl2; replace sl3 := gs 3 z' sl3; have sl15 := gu 15 z'; clear z' sl18; refine listF_nil ?_
   repeat ((fail_if_success refine stp ?_); with_reducible go_step)
   refine cond_E sl15 (by decide) ?_ ?_ <;> (clear sl15; intro h15 sl15)
   ·skip
    have h15' : wr = 0 := by simpa using h15
    repeat ((fail_if_success refine stp ?_); with_reducible go_step)
    refine region_F ?_; refine pl ?_; refine listF_abs (fun s8 z' => ?_); have sl6 := gu 6 z'; clear z' sl0 sl1 sl2 sl3 sl15; refine listF_nil ?_
    repeat ((fail_if_success refine stp ?_); with_reducible go_step)
    refine ret_F _ (res_t Try.results77 ((getD_F (by decide)).trans sl6)) ?_; refine ⟨ret_int ?_, HB.out.toBelow⟩; unfold below failAt; rw [if_neg h7', if_pos (show n = 0 ∨ wr = 0 by omega)]; simp
   ·skip
    have h15' : ¬ wr = 0 := by simpa using h15
    have hpos : 0 < wr := by omega
    obtain ⟨d0, d1⟩ : 0 ≤ (s - n) / wr ∧ (s - n) / wr ≤ 2000000 := ⟨Int.ediv_nonneg (by omega) (by omega), by have := Int.ediv_le_self (b := wr) (a := s - n) (by omega); omega⟩; have w1 : IntKind.i64.wrap (s - n) = s - n := IntWalk.i64_in _ (by omega)
    have w0 : IntKind.i64.wrap ((s - n).tdiv wr) = (s - n) / wr := by rw [Int.tdiv_eq_ediv_of_nonneg (by omega)]; exact IntWalk.i64_in _ (by omega)
    have w2 : IntKind.i64.wrap (hour + (s - n) / wr) = hour + (s - n) / wr := IntWalk.i64_in _ (by omega); have w3 : IntKind.i64.wrap (hour + (s - n) / wr + 1) = hour + (s - n) / wr + 1 := IntWalk.i64_in _ (by omega)
    repeat ((fail_if_success refine stp ?_); with_reducible go_step)
    refine regionQ_F (Below w.heap.size w) (by kernel_rfl) (by kernel_rfl) (Below.refl _ _).drew ?_
    iterate 12 refine lq ?_
    refine listQ_nil ?_; intro w9 hb10; replace HB := hid (HB.out.below hb10); clear hb10
    repeat ((fail_if_success refine stp ?_); with_reducible go_step)
    refine ret_abs (fun s11 z' => ?_); have sl6 := gu 6 z'; clear z' sl0 sl1 sl2 sl3 sl15; refine ret_F _ (res_t Try.results77 ((getD_F (by decide)).trans sl6)) ?_; exact ⟨ret_int (below_div h7' h18' hpos).symm, HB.out.toBelow⟩

theorem volt_top {k : Kd} (hK : KOk k) : voltOk k 1000 = true := by
  unfold voltOk; rw [getD_get (show k.steps.length - 1 < k.steps.length by have := hK.l0; omega), inb_iff]; have := (hK.st (k.steps.length - 1) (by have := hK.l0; omega)).1.2
  omega

set_option maxRecDepth 100000 in
set_option maxHeartbeats 1000000 in
theorem fails_any (V : Nat) (k : Kd) (a : Option Addr) (c : Nat) (s : Span) (h : Int) (w : World) (hV : Cells w V (vC k a c s h)) (hR : RdSteps w a k.steps) (hK : KOk k) (hs : spanIn s) (h0 : 0 ≤ h ∧ h ≤ 100000) :
    Calls Try.prog 55 #[.pointer (some ⟨V, 0, none⟩)] w (fun e w' => e = .returned (.agg #[.int .i64 (failAt h (below s.lo (needed k 1000) k.wear.hi)), .int .i64 (failAt h (below s.hi (needed k 1000) k.wear.lo))]) ∧ Below w.heap.size w w') := by
 have HK := hid hK; have HR := hid hR; have hw0 := hK.w0; have hw1 := hK.w1; obtain ⟨n1, n2⟩ := needed_bd hK (volt_top hK); obtain ⟨⟨a1, a2⟩, a3, a4⟩ := hs; obtain ⟨b1, b2⟩ := h0
 have hlo : 0 ≤ k.wear.hi := by omega
 clear hK hR hw1; have kV := hV
 refine enter_F Try.func55 rfl Try.ntmps55 (by simp) ?_
 intro s0 hs; have sl0 : s0 0 = .pointer (some ⟨V, 0, none⟩) := hs 0 (by simp); clear hs; have HB := hid (OldB.refl [] w); have qV := kV.1
 repeat ((fail_if_success refine stp ?_); with_reducible go_step)
 refine region_F ?_; refine pa (fun w1 B1 hB kb1' hb2 => ?_); have gb1 := HB.out.gB hB; have oV_b1 := oB qV hB; have eb1 := eB hB; clear hB; clear qV; replace kV := kV.at hb2; replace HB := hid (HB.out.below hb2); clear hb2; have qV := kV.1; have kb1 := kb1'; clear kb1'; have qb1 := kb1.1; refine pa (fun w3 B2 hB kb2' hb4 => ?_); have gb2 := HB.out.gB hB; have oV_b2 := oB qV hB; have ob1_b2 := oB qb1 hB; have eb2 := eB hB; clear hB; clear qV qb1; replace kV := kV.at hb4; replace kb1 := kb1.at hb4; replace HB := hid (HB.out.below hb4); clear hb4; have qV := kV.1; have qb1 := kb1.1; have kb2 := kb2'; clear kb2'; have qb2 := kb2.1; refine listF_abs (fun s5 z' => ?_); have sl1 := gu 1 z'; have sl2 := gu 2 z'; clear z' sl0; refine listF_nil ?_
 repeat ((fail_if_success refine stp ?_); with_reducible go_step)
 refine region_F ?_; have cb1_0 := kb1.cell 0 rfl; refine pl ?_; refine listF_step rfl (fun K' hK => ?_); unfold opF; go_simp; refine (need_any V k a c s h 1000 _ kV (Rd.oldB HR.out HB.out (by simp)) HK.out (volt_top HK.out)).mono ?_; rintro e w6 ⟨rfl, hb7⟩; refine ⟨_, rfl, hK _ _ ?_⟩; clear hK K'; clear cb1_0; clear qV qb1 qb2; replace kV := kV.at hb7; replace kb1 := kb1.at hb7; replace kb2 := kb2.at hb7; replace HB := hid (HB.out.below hb7); clear hb7; have qV := kV.1; have qb1 := kb1.1; have qb2 := kb2.1; refine pa (fun w8 B3 hB kb3' hb9 => ?_); have gb3 := HB.out.gB hB; have oV_b3 := oB qV hB; have ob1_b3 := oB qb1 hB; have ob2_b3 := oB qb2 hB; have eb3 := eB hB; clear hB; clear qV qb1 qb2; replace kV := kV.at hb9; replace kb1 := kb1.at hb9; replace kb2 := kb2.at hb9; replace HB := hid (HB.out.below hb9); clear hb9; have qV := kV.1; have qb1 := kb1.1; have qb2 := kb2.1; have kb3 := kb3'; clear kb3'; have qb3 := kb3.1; have cb3_0 := kb3.cell 0 rfl; have zb3 := kb3.2.2
 refine pl ?_; refine listF_absw (fun w10 hw' => ?_); have kb3' := cells_of hw' (Cells.set (i := 0) (kb3))
 (try simp only [vC, List.set_cons_zero, List.set_cons_succ] at kb3')
 have hb11 : OldB [B3] w8 w10 := oldset hw'; clear hw'; clear cb3_0 zb3; clear qV qb1 qb2 qb3; replace kb3 := kb3'; replace kV := kV.oldB hb11 (by first | (simp; done) | (simp; omega)); replace kb1 := kb1.oldB hb11 (by first | (simp; done) | (simp; omega)); replace kb2 := kb2.oldB hb11 (by first | (simp; done) | (simp; omega)); replace HB := hid (HB.out.more hb11 (by simp; try omega)); clear hb11; have qV := kV.1; have qb1 := kb1.1; have qb2 := kb2.1; have qb3 := kb3.1; clear kb3'; refine listF_abs (fun s12 z' => ?_); replace sl1 := gs 1 z' sl1; replace sl2 := gs 2 z' sl2; have sl3 := gu 3 z'; clear z'; refine listF_nil ?_
 repeat ((fail_if_success refine stp ?_); with_reducible go_step)
 refine region_F ?_; refine pl ?_; refine pl ?_; refine listF_abs (fun s13 z' => ?_); replace sl1 := gs 1 z' sl1; replace sl2 := gs 2 z' sl2; have sl4 := gu 4 z'; clear z' sl3; refine listF_nil ?_
 repeat ((fail_if_success refine stp ?_); with_reducible go_step)
 have cV_0 := kV.cell 0 rfl; have cV_1 := kV.cell 1 rfl; have cV_2 := kV.cell 2 rfl; have cV_3 := kV.cell 3 rfl; have cV_4 := kV.cell 4 rfl; have cV_5 := kV.cell 5 rfl; have cV_6 := kV.cell 6 rfl; have cb1_0 := kb1.cell 0 rfl; have cb2_0 := kb2.cell 0 rfl; have cb2_1 := kb2.cell 1 rfl; have cb3_0 := kb3.cell 0 rfl; refine regionR_F [] [] [] [.q [], .q [], .q [], .q [], .q [], .q [], .q [], .q [], .q [], .q [], .q [], .q [], .q [], .q [], .q [], .q [], .q [], .q [], .q [], .q [], .q [], .q [], .q [], .q [], .q []] [?v2_0, ?v2_1, ?v2_2, ?v2_3, ?v2_4, ?v2_5, ?v2_6, ?v2_7, ?v2_8, ?v2_9, ?v2_10, ?v2_11, ?v2_12, ?v2_13, ?v2_14, ?v2_15, ?v2_16, ?v2_17, ?v2_18, ?v2_19, ?v2_20, ?v2_21, ?v2_22, ?v2_23, ?v2_24] [fun _ => [], fun _ => [], fun _ => [], fun _ => [], fun _ => [], fun _ => [], fun _ => [], fun _ => [], fun _ => [], fun _ => [], fun _ => [], fun _ => [], fun _ => [], fun _ => [], fun _ => [], fun _ => [], fun _ => [], fun _ => [], fun _ => [], fun _ => [], fun _ => [], fun _ => [], fun _ => [], fun _ => [], fun _ => []] (by kernel_rfl) (by kernel_rfl) (by kernel_rfl) (by kernel_rfl) (by kernel_rfl) (by first | exact List.nodup_nil | exact List.nodup_singleton _ | (simp; done) | (simp; omega)) bc_nil ?walk2 ?dep2
 case walk2 =>
  iterate 12 refine rq ?_
  refine walkR_q (by rfl) (fun X hX wq hwq hrq => ?_) ?_
  · obtain ⟨hcq, hfq⟩ := hwq.b0
    clear hrq; go_simp
    (exact fails1_any s.lo k.wear.hi (needed k 1000) h B3 B1 V _ ((hcq B3 0 qb3).trans (kb3.cell 0 rfl)) ((hcq B1 0 qb1).trans (kb1.cell 0 rfl)) ((hcq V 6 qV).trans (kV.cell 6 rfl)) ⟨a1, a2⟩ ⟨n1, n2⟩ hlo ⟨b1, b2⟩ (Nat.lt_of_lt_of_le qb3 hwq.size) (Nat.lt_of_lt_of_le qb1 hwq.size) (Nat.lt_of_lt_of_le qV hwq.size))
  iterate 12 refine rq ?_
  refine walkR_nil (fun X hX w14 hwz hcz => ?_); clear hX hcz
  (try clear X)
  skip; have hb15 := hwz.unDrew; clear hwz; clear cV_0 cV_1 cV_2 cV_3 cV_4 cV_5 cV_6 cb1_0 cb2_0 cb2_1 cb3_0; clear qV qb1 qb2 qb3; replace kV := kV.oldB hb15 (by first | (simp; done) | (simp; omega)); replace kb1 := kb1.oldB hb15 (by first | (simp; done) | (simp; omega)); replace kb2 := kb2.oldB hb15 (by first | (simp; done) | (simp; omega)); replace kb3 := kb3.oldB hb15 (by first | (simp; done) | (simp; omega)); replace HB := hid (HB.out.more hb15 (by simp; try omega)); clear hb15; have qV := kV.1; have qb1 := kb1.1; have qb2 := kb2.1; have qb3 := kb3.1; refine listF_step rfl (fun K' hK => ?_); unfold opF; go_simp; refine (fails1_any s.hi k.wear.lo (needed k 1000) h B3 B1 V _ (kb3.cell 0 rfl) (kb1.cell 0 rfl) (kV.cell 6 rfl) ⟨a3, a4⟩ ⟨n1, n2⟩ hw0 ⟨b1, b2⟩ qb3 qb1 qV).mono ?_; rintro e w16 ⟨rfl, hb17⟩; refine ⟨_, rfl, hK _ _ ?_⟩; clear hK K'; clear qV qb1 qb2 qb3; replace kV := kV.at hb17; replace kb1 := kb1.at hb17; replace kb2 := kb2.at hb17
  replace kb3 := kb3.at hb17; replace HB := hid (HB.out.below hb17); clear hb17; have qV := kV.1; have qb1 := kb1.1; have qb2 := kb2.1; have qb3 := kb3.1; refine pl ?_; have cb2_0 := kb2.cell 0 rfl; have cb2_1 := kb2.cell 1 rfl; have zb2 := kb2.2.2; refine pl ?_; refine listF_absw (fun w18 hw' => ?_); have kb2' := cells_of hw' (Cells.set (i := 1) (Cells.set (i := 0) (kb2)))
  (try simp only [vC, List.set_cons_zero, List.set_cons_succ] at kb2')
  have hb19 : OldB [B2] w16 w18 := oldset hw'; clear hw'; clear cb2_0 cb2_1 zb2; clear qV qb1 qb2 qb3; replace kb2 := kb2'; replace kV := kV.oldB hb19 (by first | (simp; done) | (simp; omega)); replace kb1 := kb1.oldB hb19 (by first | (simp; done) | (simp; omega)); replace kb3 := kb3.oldB hb19 (by first | (simp; done) | (simp; omega)); replace HB := hid (HB.out.more hb19 (by simp; try omega)); clear hb19; have qV := kV.1; have qb1 := kb1.1; have qb2 := kb2.1; have qb3 := kb3.1; clear kb2'; refine listF_abs (fun s20 z' => ?_); replace sl2 := gs 2 z' sl2; clear z' sl1 sl4; refine listF_nil ?_
  repeat ((fail_if_success refine stp ?_); with_reducible go_step)
  have cb2_0 := kb2.cell 0 rfl; have cb2_1 := kb2.cell 1 rfl; refine ret_F _ (res_c Try.results55 ((getD_F (by decide)).trans sl2) (load_t37 cb2_0 cb2_1)) ?_; exact ⟨rfl, HB.out.toBelow⟩
 case dep2 =>
   iterate 25 refine dR ?_
   exact depR_nil

end Go.Proofs.Ytndcmmghgljinaa
