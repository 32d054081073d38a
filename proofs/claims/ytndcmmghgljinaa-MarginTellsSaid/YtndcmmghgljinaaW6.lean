/- The stable sort's parts: exchanging. -/
import Derived.Test.YtndcmmghgljinaaW4
import Derived.Test.YtndcmmghgljinaaS1
set_option linter.all false
namespace Go.Proofs.Ytndcmmghgljinaa
open Go.RowKit

open Go.Sort
/-- the block g holds an array that P tells of; old memory but g is as it was -/
def SortRes (g : Nat) (w : World) (P : Array MCk → Prop) (e : Ending) (w' : World) : Prop := e = .returned (.tuple #[]) ∧ ∃ d', Cells w' g (fl d') ∧ P d' ∧ OldB [g] w w'
def PermAll (a b n : Nat) (d d' : Array MCk) : Prop := ∀ lo hi, lo ≤ a → lo ≤ b → a + n ≤ hi → b + n ≤ hi → hi ≤ d.size → PermIn lo hi d d'
theorem permAll_step {a b n i : Nat} {d d1 : Array MCk} (h : PermAll a b i d d1) (hi : i < n) (hs : d1.size = d.size) (ha : a + n ≤ d.size) (hb : b + n ≤ d.size) : PermAll a b (i + 1) d (swp d1 (a + i) (b + i)) := by
  intro lo hi' h1 h2 h3 h4 h5; exact permIn_trans _ _ _ _ _ (h lo hi' h1 h2 (by omega) (by omega) h5) (swp_permIn d1 lo hi' (a + i) (b + i) (by omega) (by omega) (by omega) (by omega) (by omega))
theorem callQ {P : Program} {f : FuncId} {args : Array Value} {w0 w : World} {v : Value} (h : Calls P f args w fun e w' => e = .returned v ∧ Below w.heap.size w w') (hb : Below w0.heap.size w0 w) : Calls P f args w fun e w'' => e = .returned v ∧ Below w0.heap.size w0 w'' :=
  h.mono fun _ _ h => ⟨h.1, hb.trans (h.2.mono hb.size)⟩
theorem callQs {P : Program} {f : FuncId} {args : Array Value} {w0 w : World} {v : Value} (h : Calls P f args w fun e w' => e = .returned v ∧ w = w') (hb : Below w0.heap.size w0 w) : Calls P f args w fun e w'' => e = .returned v ∧ Below w0.heap.size w0 w'' :=
  h.mono fun _ _ h => ⟨h.1, by rw [← h.2]; exact hb⟩
theorem toNat_add (a i : Nat) : ((a : Int) + (i : Int)).toNat = a + i := by omega

theorem fl_el {w : World} {g : Nat} {d : Array MCk} (h : Cells w g (fl d)) {i : Nat} (hi : i < d.size) : ∃ x, Hid (d[i]! = x) ∧ w.cell? ⟨g, i * 3, none⟩ = some (.int .i64 x.hour) ∧ w.cell? ⟨g, i * 3 + 1, none⟩ = some (.int .i64 x.volt) ∧ w.cell? ⟨g, i * 3 + 2, none⟩ = some (.bool x.passed) :=
  ⟨_, hid rfl, fl_get h hi⟩
theorem fl_is {w : World} {g : Nat} {d : Array MCk} (h : Cells w g (fl d)) {i : Nat} {x : MCk} (hi : i < d.size) (hx : Hid (d[i]! = x)) : w.cell? ⟨g, i * 3, none⟩ = some (.int .i64 x.hour) ∧ w.cell? ⟨g, i * 3 + 1, none⟩ = some (.int .i64 x.volt) ∧ w.cell? ⟨g, i * 3 + 2, none⟩ = some (.bool x.passed) := by
  have := fl_get h hi; rwa [hx.out] at this
theorem fl_swap {w : World} {g : Nat} {d : Array MCk} {i j : Nat} {x y : MCk} (hx : Hid (d[i]! = x)) (hy : Hid (d[j]! = y)) (h : Cells w g (fl ((d.setIfInBounds i y).setIfInBounds j x))) : Cells w g (fl (swp d i j)) := by
  unfold swp; rw [hx.out, hy.out]; exact h

set_option maxRecDepth 100000 in
set_option maxHeartbeats 1000000 in
theorem look2_any (x : MCk) (w : World) :
    Calls Try.prog 73 #[.agg #[.int .i64 x.hour, .int .i64 x.volt, .bool x.passed]] w (fun e w' => e = .returned (.int .i64 x.hour) ∧ Below w.heap.size w w') := by
 refine enter_F Try.func73 rfl Try.ntmps73 (by simp) ?_
 intro s0 hs; have sl0 : s0 0 = .agg #[.int .i64 x.hour, .int .i64 x.volt, .bool x.passed] := hs 0 (by simp); clear hs; have HB := hid (OldB.refl [] w)
 repeat ((fail_if_success refine stp ?_); with_reducible go_step)
 refine region_F ?_; refine pa (fun w1 B1 hB kb1' hb2 => ?_); have gb1 := HB.out.gB hB; have eb1 := eB hB; clear hB; replace HB := hid (HB.out.below hb2); clear hb2; have kb1 := kb1'; clear kb1'; have qb1 := kb1.1; refine pl ?_; refine listF_abs (fun s3 z' => ?_); have sl1 := gu 1 z'; clear z' sl0; refine listF_nil ?_
 repeat ((fail_if_success refine stp ?_); with_reducible go_step)
 refine region_F ?_; refine pl ?_; have cb1_0 := kb1.cell 0 rfl; have cb1_1 := kb1.cell 1 rfl; have cb1_2 := kb1.cell 2 rfl; refine pl ?_; refine pl ?_; refine listF_abs (fun s4 z' => ?_); have sl2 := gu 2 z'; clear z' sl1; refine listF_nil ?_
 repeat ((fail_if_success refine stp ?_); with_reducible go_step)
 refine ret_F _ (res_t Try.results73 ((getD_F (by decide)).trans sl2)) ?_; exact ⟨rfl, HB.out.toBelow⟩

set_option maxRecDepth 100000 in
set_option maxHeartbeats 1000000 in
theorem cmp_any (x y : MCk) (O : Nat) (w : World) (hO : Cells w O [.func (.func 73) #[] #[]]) (hx : hourOk x) (hy : hourOk y) :
    Calls Try.prog 85 #[.agg #[.int .i64 x.hour, .int .i64 x.volt, .bool x.passed], .agg #[.int .i64 y.hour, .int .i64 y.volt, .bool y.passed], .pointer (some ⟨O, 0, none⟩)] w (fun e w' => e = .returned (.int .i64 (x.hour - y.hour)) ∧ Below w.heap.size w w') := by
 obtain ⟨x1, x2⟩ := hx; obtain ⟨y1, y2⟩ := hy; have wxy : IntKind.i64.wrap (x.hour - y.hour) = x.hour - y.hour := IntWalk.i64_in _ (by omega); have kO := hO
 refine enter_F Try.func85 rfl Try.ntmps85 (by simp) ?_
 intro s0 hs; have sl0 : s0 0 = .agg #[.int .i64 x.hour, .int .i64 x.volt, .bool x.passed] := hs 0 (by simp); have sl1 : s0 1 = .agg #[.int .i64 y.hour, .int .i64 y.volt, .bool y.passed] := hs 1 (by simp); have sl2 : s0 2 = .pointer (some ⟨O, 0, none⟩) := hs 2 (by simp); clear hs; have HB := hid (OldB.refl [] w); have qO := kO.1
 repeat ((fail_if_success refine stp ?_); with_reducible go_step)
 refine region_F ?_; refine pa (fun w1 B3 hB kb3' hb2 => ?_); have gb3 := HB.out.gB hB; have oO_b3 := oB qO hB; have eb3 := eB hB; clear hB; clear qO; replace kO := kO.at hb2; replace HB := hid (HB.out.below hb2); clear hb2; have qO := kO.1; have kb3 := kb3'; clear kb3'; have qb3 := kb3.1; refine pa (fun w3 B4 hB kb4' hb4 => ?_); have gb4 := HB.out.gB hB; have oO_b4 := oB qO hB; have ob3_b4 := oB qb3 hB; have eb4 := eB hB; clear hB; clear qO qb3; replace kO := kO.at hb4; replace kb3 := kb3.at hb4; replace HB := hid (HB.out.below hb4); clear hb4; have qO := kO.1; have qb3 := kb3.1; have kb4 := kb4'; clear kb4'; have qb4 := kb4.1; refine pl ?_; refine listF_abs (fun s5 z' => ?_); replace sl2 := gs 2 z' sl2; have sl3 := gu 3 z'; have sl4 := gu 4 z'; clear z' sl0 sl1; refine listF_nil ?_
 repeat ((fail_if_success refine stp ?_); with_reducible go_step)
 have cO_0 := kO.cell 0 rfl; have cb3_0 := kb3.cell 0 rfl; have cb3_1 := kb3.cell 1 rfl; have cb3_2 := kb3.cell 2 rfl; have cb4_0 := kb4.cell 0 rfl; have cb4_1 := kb4.cell 1 rfl; have cb4_2 := kb4.cell 2 rfl; refine regionR_F [] [] [] [.q [], .q [], .q [], .q [], .q [], .q [], .q []] [?v4_0, ?v4_1, ?v4_2, ?v4_3, ?v4_4, ?v4_5, ?v4_6] [fun _ => [], fun _ => [], fun _ => [], fun _ => [], fun _ => [], fun _ => [], fun _ => []] (by kernel_rfl) (by kernel_rfl) (by kernel_rfl) (by kernel_rfl) (by kernel_rfl) (by first | exact List.nodup_nil | exact List.nodup_singleton _ | (simp; done) | (simp; omega)) bc_nil ?walk4 ?dep4
 case walk4 =>
  iterate 3 refine rq ?_
  refine walkR_q (by rfl) (fun X hX wq hwq hrq => ?_) ?_
  · obtain ⟨hcq, hfq⟩ := hwq.b0
    clear hrq; go_simp
    (exact look2_any x _)
  iterate 3 refine rq ?_
  refine walkR_nil (fun X hX w6 hwz hcz => ?_); clear hX hcz
  (try clear X)
  skip; have hb7 := hwz.unDrew; clear hwz; clear cO_0 cb3_0 cb3_1 cb3_2 cb4_0 cb4_1 cb4_2; clear qO qb3 qb4; replace kO := kO.oldB hb7 (by first | (simp; done) | (simp; omega)); replace kb3 := kb3.oldB hb7 (by first | (simp; done) | (simp; omega)); replace kb4 := kb4.oldB hb7 (by first | (simp; done) | (simp; omega)); replace HB := hid (HB.out.more hb7 (by simp; try omega)); clear hb7; have qO := kO.1; have qb3 := kb3.1; have qb4 := kb4.1; refine listF_step rfl (fun K' hK => ?_); unfold opF; go_simp; refine (look2_any y _).mono ?_; rintro e w8 ⟨rfl, hb9⟩; refine ⟨_, rfl, hK _ _ ?_⟩; clear hK K'; clear qO qb3 qb4; replace kO := kO.at hb9; replace kb3 := kb3.at hb9; replace kb4 := kb4.at hb9; replace HB := hid (HB.out.below hb9); clear hb9; have qO := kO.1; have qb3 := kb3.1; have qb4 := kb4.1; refine pl ?_; refine pl ?_; refine listF_abs (fun s10 z' => ?_); have sl5 := gu 5 z'; clear z' sl2 sl3 sl4; refine listF_nil ?_
  repeat ((fail_if_success refine stp ?_); with_reducible go_step)
  refine ret_F _ (res_t Try.results85 ((getD_F (by decide)).trans sl5)) ?_; exact ⟨rfl, HB.out.toBelow⟩
 case dep4 =>
   iterate 7 refine dR ?_
   exact depR_nil

set_option maxRecDepth 100000 in
set_option maxHeartbeats 1000000 in
theorem swapRange_any (g cap O N : Nat) (d : Array MCk) (hN : d.size = N) (a b n : Nat) (w : World) (hg : Cells w g (fl d)) (hsz : d.size ≤ 1000) (hab : a + n ≤ b ∨ b + n ≤ a) (ha : a + n ≤ d.size) (hb : b + n ≤ d.size) :
    Calls Try.prog 92 #[.slice (some ⟨g, 0, none⟩) N cap, .int .i64 (a : Int), .int .i64 (b : Int), .int .i64 (n : Int), .func (.func 85) #[] #[.pointer (some ⟨O, 0, none⟩)]] w (SortRes g w (fun d' => Same d d' (swF a b n) ∧ PermAll a b n d d')) := by
 obtain rfl := hN; have kg := hg
 refine enter_F Try.func92 rfl Try.ntmps92 (by simp) ?_
 intro s0 hs; have sl0 : s0 0 = .slice (some ⟨g, 0, none⟩) d.size cap := hs 0 (by simp); have sl1 : s0 1 = .int .i64 (a : Int) := hs 1 (by simp); have sl2 : s0 2 = .int .i64 (b : Int) := hs 2 (by simp); have sl3 : s0 3 = .int .i64 (n : Int) := hs 3 (by simp); have sl4 : s0 4 = .func (.func 85) #[] #[.pointer (some ⟨O, 0, none⟩)] := hs 4 (by simp); clear hs; have HB := hid (OldB.refl [g] w); have qg := kg.1
 repeat ((fail_if_success refine stp ?_); with_reducible go_step)
 refine region_F ?_; refine pl ?_; refine listF_abs (fun s1 z' => ?_); replace sl0 := gs 0 z' sl0; replace sl1 := gs 1 z' sl1; replace sl2 := gs 2 z' sl2; replace sl3 := gs 3 z' sl3; have sl10 := gu 10 z'; clear z' sl4; refine listF_nil ?_
 repeat ((fail_if_success refine stp ?_); with_reducible go_step)
 have hc0_0 := hid sl0; have hc0_1 := hid sl1; have hc0_2 := hid sl2; have hc0_3 := hid sl3; refine loop_F (n := 38) (fun kJ sJ wJ => ∃ (i : Nat) (d1 : Array MCk), kJ = n - i ∧ sJ 10 = .int .i64 (i : Int) ∧ sJ 0 = s1 0 ∧ sJ 1 = s1 1 ∧ sJ 2 = s1 2 ∧ sJ 3 = s1 3 ∧ OldB [g] w wJ ∧ Cells wJ g (fl d1) ∧ i ≤ n ∧ Hid (Same d d1 (swF a b i)) ∧ Hid (PermAll a b i d d1)) ⟨0, d, rfl, (by first | exact sl10 | (rw [sl10]; go_num) | (rw [sl10]; rfl)), rfl, rfl, rfl, rfl, OldB.refl _ _, (by first | (with_reducible exact kg) | (apply Cells.conv; (focus (exact kg)); (first | rfl | (simp; done)))), Nat.zero_le _, hid ((Same.refl d).to (fun k => by unfold swF; (repeat' split) <;> omega)), hid (fun lo hi _ _ _ _ _ => permIn_refl d lo hi)⟩ ?_; clear sl10; rintro kJ s2 w3 ⟨i, d1, rfl, sl10, e0, e1, e2, e3, hb4, mg', hin, hS, hP⟩; replace sl0 := e0.trans sl0; clear e0; replace sl1 := e1.trans sl1; clear e1; replace sl2 := e2.trans sl2; clear e2
 replace sl3 := e3.trans sl3; clear e3; have hoJ := hb4; clear qg; replace kg := mg'; replace HB := hid (HB.out.more hb4 (by simp; try omega)); clear hb4; have qg := kg.1; clear mg'; have HoJ := hid hoJ; clear hoJ; have HL5 := HoJ; clear HoJ
 repeat ((fail_if_success refine stp ?_); with_reducible go_step)
 refine region_F ?_
 iterate 3 refine pl ?_
 refine listF_abs (fun s6 z' => ?_); replace sl0 := gs 0 z' sl0; replace sl1 := gs 1 z' sl1; replace sl2 := gs 2 z' sl2; replace sl3 := gs 3 z' sl3; replace sl10 := gs 10 z' sl10; have sl13 := gu 13 z'; clear z'; refine listF_nil ?_
 repeat ((fail_if_success refine stp ?_); with_reducible go_step)
 refine cond_E sl13 (by decide) ?_ ?_ <;> (clear sl13; intro h13 sl13)
 ·skip
  have hlt : i < n := by simpa using h13
  have hai : a + i < d1.size := by rw [hS.out.1]; omega
  have hbi : b + i < d1.size := by rw [hS.out.1]; omega
  have hai' : (a : Int) + (i : Int) < d.size := by omega
  have hbi' : (b : Int) + (i : Int) < d.size := by omega
  have ta := toNat_add a i; have tb := toNat_add b i; have wa : IntKind.i64.wrap ((a : Int) + (i : Int)) = (a : Int) + (i : Int) := IntWalk.i64_in _ (by omega); have wb : IntKind.i64.wrap ((b : Int) + (i : Int)) = (b : Int) + (i : Int) := IntWalk.i64_in _ (by omega)
  have za : 0 ≤ (a : Int) + (i : Int) := by omega
  have zb : 0 ≤ (b : Int) + (i : Int) := by omega
  repeat ((fail_if_success refine stp ?_); with_reducible go_step)
  refine regionR_F [g] [(fl d1)] [24] [.q [], .q [], .q [], .q [], .q [], .q [], .q [], .q [], .q [], .q [], .q [], .q [], .q [], .q [24], .q [], .q [], .q [], .q [], .q [], .q [24], .q [], .st 24] [?v5_0, ?v5_1, ?v5_2, ?v5_3, ?v5_4, ?v5_5, ?v5_6, ?v5_7, ?v5_8, ?v5_9, ?v5_10, ?v5_11, ?v5_12, ?v5_13, ?v5_14, ?v5_15, ?v5_16, ?v5_17, ?v5_18, ?v5_19, ?v5_20, fun _ => undef] [fun _ => [], fun _ => [], fun _ => [], fun _ => [], fun _ => [], fun _ => [], fun _ => [], fun _ => [], fun _ => [], fun _ => [], fun _ => [], fun _ => [], fun _ => [], fun _ => [], fun _ => [], fun _ => [], fun _ => [], fun _ => [], fun _ => [], fun _ => [], fun _ => [], ?c5_21] (by kernel_rfl) (by kernel_rfl) (by kernel_rfl) (by kernel_rfl) (by kernel_rfl) (by first | exact List.nodup_nil | exact List.nodup_singleton _ | (simp; done) | (simp; omega)) (bc_cons (by repeat (first | (with_reducible exact kg) | (with_reducible refine Cells.drew ?_) | (with_reducible refine Cells.up ?_ _) | (with_reducible refine Cells.setFar ?_ (by omega)))) bc_nil) ?walk5 ?dep5
  case walk5 =>
   iterate 13 refine rq ?_
   refine walkR_q (by rfl) (fun X hX wq hwq hrq => ?_) ?_
   · obtain ⟨hcq, hfq⟩ := hwq.b1
     have kq24 := hrq 24 (by simp); rw [show X 24 = g from hX.at0 0 _ rfl] at kq24; replace kq24 : Cells wq g ((fl d1)) := kq24; have kqs24 := kq24.1; obtain ⟨f0, f1, f2⟩ := fl_get kq24 hai; obtain ⟨f3, f4, f5⟩ := fl_get kq24 hbi; clear hrq; go_simp
     (first | rfl | exact ⟨rfl, rfl⟩)
   iterate 5 refine rq ?_
   refine walkR_q (by rfl) (fun X hX wq hwq hrq => ?_) ?_
   · obtain ⟨hcq, hfq⟩ := hwq.b1
     have kq24 := hrq 24 (by simp); rw [show X 24 = g from hX.at0 0 _ rfl] at kq24; replace kq24 : Cells wq g ((fl d1)) := kq24; have kqs24 := kq24.1; obtain ⟨f0, f1, f2⟩ := fl_get kq24 hai; obtain ⟨f3, f4, f5⟩ := fl_get kq24 hbi; clear hrq; go_simp
     (first | rfl | exact ⟨rfl, rfl⟩)
   refine rq ?_; refine walkR_st (by rfl) (fun X hX wq hwq hkq => ?_) ?_
   · rw [show X 24 = g from hX.at0 0 _ rfl] at hkq ⊢
     replace hkq : Cells wq g ((fl d1)) := hkq; have hks := hkq.1; have hkz := hkq.2.2; obtain ⟨f0, f1, f2⟩ := fl_get hkq hai; go_simp
     (first | ((with_reducible refine writeB_mk (Cells.set (Cells.set (Cells.set hkq))) ?_ ?_); (focus (repeat (first | (with_reducible exact Only.refl _ _) | (with_reducible refine Only.set ?_)))); rfl))
   refine walkR_nil (fun X hX w7 hwz hcz => ?_); have kz0 := hcz 24 (by simp); rw [show X 24 = g from hX.at0 0 _ rfl] at kz0
   simp only [updC_some, updC_none, Nat.reduceEqDiff, ↓reduceIte] at kz0
   clear hX hcz
   (try clear X)
   skip; have hb8 := hwz.unDrew; clear hwz
   (try simp only [vC, List.set_cons_zero, List.set_cons_succ] at kz0)
   clear qg; replace kg := kz0; replace HL5 := hid (HL5.out.more hb8 (by simp; try omega)); replace HB := hid (HB.out.more hb8 (by simp; try omega)); clear hb8; have qg := kg.1; clear kz0; rw [fl_set _ hai] at kg; refine pl ?_; have zg := kg.2.2; obtain ⟨f3, f4, f5⟩ := fl_get kg (i := b + i) (by simpa using hbi); refine pl ?_; refine listF_absw ?_; intro w9 hw'; have kg' := cells_of hw' (Cells.set (Cells.set (Cells.set (kg)))); rw [fl_set _ (by simpa using hbi)] at kg'; have hb10 : OldB [g] w7 w9 := oldset hw'; clear hw'; clear zg; clear qg; replace kg := kg'; replace HL5 := hid (HL5.out.more hb10 (by simp; try omega)); replace HB := hid (HB.out.more hb10 (by simp; try omega)); clear hb10; have qg := kg.1; clear kg'; refine listF_abs (fun s11 z' => ?_); replace sl0 := gs 0 z' sl0; replace sl1 := gs 1 z' sl1; replace sl2 := gs 2 z' sl2; replace sl3 := gs 3 z' sl3; replace sl10 := gs 10 z' sl10; clear z' sl13; refine listF_nil ?_
   repeat ((fail_if_success refine stp ?_); with_reducible go_step)
   refine region_F ?_
   iterate 3 refine pl ?_
   refine listF_abs (fun s12 z' => ?_); replace sl0 := gs 0 z' sl0; replace sl1 := gs 1 z' sl1; replace sl2 := gs 2 z' sl2; replace sl3 := gs 3 z' sl3; replace sl10 := gu 10 z'; clear z'; refine listF_nil ?_
   repeat ((fail_if_success refine stp ?_); with_reducible go_step)
   refine ⟨_, _, rfl, ?_, i + 1, swp d1 (a + i) (b + i), rfl, (by first | (with_reducible exact sl10) | (rw [sl10]; (with_reducible go_num); done) | (rw [sl10, IntWalk.i64_in] <;> first | ((with_reducible go_num); done) | omega) | (rw [sl10]; go_num; done) | (rw [sl10]; simp; done) | (rw [sl10]; simp; omega)), (sl0.trans hc0_0.out.symm), (sl1.trans hc0_1.out.symm), (sl2.trans hc0_2.out.symm), (sl3.trans hc0_3.out.symm), HL5.out, (by apply Cells.conv; (focus (exact kg)); (first | rfl | (simp [swp, getElem!_pos d1 (a + i) hai, getElem!_pos d1 (b + i) hbi]; done) | simp [swp])), by omega, hid (sw_step hS.out hlt hab ha hb), hid (permAll_step hP.out hlt hS.out.1 ha hb)⟩
   omega
  case dep5 =>
    iterate 22 refine dR ?_
    exact depR_nil
 ·skip
  have hge : ¬ i < n := by simpa using h13
  obtain rfl : i = n := by omega
  repeat ((fail_if_success refine stp ?_); with_reducible go_step)
  clear HL5; clear hc0_0 hc0_1 hc0_2 hc0_3; refine norm_F _ (res_none Try.results92) ?_; exact ⟨rfl, d1, kg, ⟨hS.out, hP.out⟩, HB.out⟩

end Go.Proofs.Ytndcmmghgljinaa
