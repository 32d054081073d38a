/- The reference's Spans, Ints. -/
import Derived.Test.YtndcmmghgljinaardW18
set_option linter.all false
namespace Go.Proofs.Ytndcmmghgljinaa

section
open Go.RowKit

theorem load_t26 {w : World} {b o : Nat} {x0 x1 x2 x3 : Value} (h0 : w.cell? ⟨b, o, none⟩ = some x0) (h1 : w.cell? ⟨b, o + 1, none⟩ = some x1) (h2 : w.cell? ⟨b, o + 2, none⟩ = some x2) (h3 : w.cell? ⟨b, o + 3, none⟩ = some x3) :
    (loadVar 26 ⟨b, o, none⟩).run Try.prog w = .ok (.agg #[x0, x1, x2, x3]) w := by
  simp [go_sem, h0, h1, h2, h3]


abbrev KND : Kd := ⟨1000, ⟨1, 3⟩, [⟨1000, 300⟩, ⟨900, 500⟩, ⟨800, 700⟩]⟩
abbrev CHS : List MCk := [⟨100, 800, true⟩, ⟨200, 800, false⟩, ⟨200, 900, true⟩]

set_option maxRecDepth 100000 in
set_option maxHeartbeats 1000000 in
theorem lspan_any (x y : Int) (w : World) :
    Calls Try.prog 40 #[.int .i64 x, .int .i64 y] w (fun e w' => e = .returned (.agg #[.int .i64 x, .int .i64 y]) ∧ Below w.heap.size w w') := by
 refine enter_F Try.func40 rfl Try.ntmps40 (by simp) ?_
 intro s0 hs; have sl0 : s0 0 = .int .i64 x := hs 0 (by simp); have sl1 : s0 1 = .int .i64 y := hs 1 (by simp); clear hs; have HB := hid (OldB.refl [] w)
 repeat ((fail_if_success refine stp ?_); with_reducible go_step)
 refine region_F ?_; refine pa (fun w1 B4 hB kb4' hb2 => ?_); have gb4 := HB.out.gB hB; have eb4 := eB hB; clear hB; replace HB := hid (HB.out.below hb2); clear hb2; have kb4 := kb4'; clear kb4'; have qb4 := kb4.1; refine listF_abs (fun s3 z' => ?_); replace sl0 := gs 0 z' sl0; replace sl1 := gs 1 z' sl1; have sl4 := gu 4 z'; clear z'; refine listF_nil ?_
 repeat ((fail_if_success refine stp ?_); with_reducible go_step)
 refine region_F ?_
 iterate 3 refine pl ?_
 have cb4_0 := kb4.cell 0 rfl; have cb4_1 := kb4.cell 1 rfl; have zb4 := kb4.2.2; refine pl ?_; refine listF_absw (fun w4 hw' => ?_); have kb4' := cells_of hw' (Cells.set (i := 1) (Cells.set (i := 0) (kb4)))
 (try simp only [vC, List.set_cons_zero, List.set_cons_succ] at kb4')
 have hb5 : OldB [B4] w1 w4 := oldset hw'; clear hw'; clear cb4_0 cb4_1 zb4; clear qb4; replace kb4 := kb4'; replace HB := hid (HB.out.more hb5 (by simp; try omega)); clear hb5; have qb4 := kb4.1; clear kb4'; refine listF_abs (fun s6 z' => ?_); replace sl4 := gs 4 z' sl4; clear z' sl0 sl1; refine listF_nil ?_
 repeat ((fail_if_success refine stp ?_); with_reducible go_step)
 have cb4_0 := kb4.cell 0 rfl; have cb4_1 := kb4.cell 1 rfl; refine ret_F _ (res_c Try.results40 ((getD_F (by decide)).trans sl4) (load_t23 cb4_0 cb4_1)) ?_; exact ⟨rfl, HB.out.toBelow⟩

set_option maxRecDepth 100000 in
set_option maxHeartbeats 1000000 in
theorem kind_any (w : World) :
    Calls Try.prog 38 #[] w (fun e w' => ∃ b, e = .returned (.agg #[.int .i64 1000, .int .i64 1, .int .i64 3, .slice (some ⟨b, 0, none⟩) 3 3]) ∧ RdSteps w' (some ⟨b, 0, none⟩) KND.steps ∧ w.heap.size ≤ b ∧ Below w.heap.size w w') := by
 refine enter_F Try.func38 rfl Try.ntmps38 (by simp) ?_
 intro s0 hs; clear hs; have HB := hid (OldB.refl [] w)
 repeat ((fail_if_success refine stp ?_); with_reducible go_step)
 refine region_F ?_; refine pa (fun w1 B0 hB kb0' hb2 => ?_); have gb0 := HB.out.gB hB; have eb0 := eB hB; clear hB; replace HB := hid (HB.out.below hb2); clear hb2; have kb0 := kb0'; clear kb0'; have qb0 := kb0.1; refine listF_abs (fun s3 z' => ?_); have sl0 := gu 0 z'; clear z'; refine listF_nil ?_
 repeat ((fail_if_success refine stp ?_); with_reducible go_step)
 refine region_F ?_; refine listF_step rfl (fun K' hK => ?_); unfold opF; go_simp; refine (lspan_any 1 3 _).mono ?_; rintro e w4 ⟨rfl, hb5⟩; refine ⟨_, rfl, hK _ _ ?_⟩; clear hK K'; clear qb0; replace kb0 := kb0.at hb5; replace HB := hid (HB.out.below hb5); clear hb5; have qb0 := kb0.1
 iterate 3 refine pl ?_
 refine pas (fun w6 B5 hB kb5' hb7 => ?_); have gb5 := HB.out.gB hB; have ob0_b5 := oB qb0 hB; have eb5 := eB hB; clear hB; clear qb0; replace kb0 := kb0.at hb7; replace HB := hid (HB.out.below hb7); clear hb7; have qb0 := kb0.1; have kb5 := kb5'; clear kb5'; have qb5 := kb5.1; refine pl ?_; have cb0_0 := kb0.cell 0 rfl; have cb0_1 := kb0.cell 1 rfl; have cb0_2 := kb0.cell 2 rfl; have cb0_3 := kb0.cell 3 rfl; have zb0 := kb0.2.2; refine pl ?_; refine listF_absw (fun w8 hw' => ?_); have kb0' := cells_of hw' (Cells.set (i := 3) (Cells.set (i := 2) (Cells.set (i := 1) (Cells.set (i := 0) (kb0)))))
 (try simp only [vC, List.set_cons_zero, List.set_cons_succ] at kb0')
 have hb9 : OldB [B0] w6 w8 := oldset hw'; clear hw'; clear cb0_0 cb0_1 cb0_2 cb0_3 zb0; clear qb0 qb5; replace kb0 := kb0'; replace kb5 := kb5.oldB hb9 (by first | (simp; done) | (simp; omega)); replace HB := hid (HB.out.more hb9 (by simp; try omega)); clear hb9; have qb0 := kb0.1; have qb5 := kb5.1; clear kb0'; refine listF_abs (fun s10 z' => ?_); replace sl0 := gs 0 z' sl0; clear z'; refine listF_nil ?_
 repeat ((fail_if_success refine stp ?_); with_reducible go_step)
 have cb0_0 := kb0.cell 0 rfl; have cb0_1 := kb0.cell 1 rfl; have cb0_2 := kb0.cell 2 rfl; have cb0_3 := kb0.cell 3 rfl; refine ret_F _ (res_c Try.results38 ((getD_F (by decide)).trans sl0) (load_t26 cb0_0 cb0_1 cb0_2 cb0_3)) ?_; exact ⟨B5, rfl, Cells.rd (f := Stp.cs) (m := 2) (l := KND.steps) (fun _ => rfl) kb5, gb5, HB.out.toBelow⟩

set_option maxRecDepth 100000 in
set_option maxHeartbeats 1000000 in
theorem checks_any (w : World) :
    Calls Try.prog 39 #[] w (fun e w' => ∃ b, e = .returned (.slice (some ⟨b, 0, none⟩) 3 3) ∧ RdCks w' (some ⟨b, 0, none⟩) CHS ∧ w.heap.size ≤ b ∧ Below w.heap.size w w') := by
 refine enter_F Try.func39 rfl Try.ntmps39 (by simp) ?_
 intro s0 hs; clear hs; have HB := hid (OldB.refl [] w)
 repeat ((fail_if_success refine stp ?_); with_reducible go_step)
 refine region_F ?_; refine pl ?_; refine listF_abs (fun s1 z' => ?_); clear z'; refine listF_nil ?_
 repeat ((fail_if_success refine stp ?_); with_reducible go_step)
 refine region_F ?_
 iterate 3 refine pl ?_
 refine pas (fun w2 B4 hB kb4' hb3 => ?_); have gb4 := HB.out.gB hB; have eb4 := eB hB; clear hB; replace HB := hid (HB.out.below hb3); clear hb3; have kb4 := kb4'; clear kb4'; have qb4 := kb4.1; refine pl ?_; refine listF_abs (fun s4 z' => ?_); have sl0 := gu 0 z'; clear z'; refine listF_nil ?_
 repeat ((fail_if_success refine stp ?_); with_reducible go_step)
 refine ret_F _ (res_t Try.results39 ((getD_F (by decide)).trans sl0)) ?_; exact ⟨B4, rfl, Cells.rd (f := MCk.cs) (m := 3) (l := CHS) (fun _ => rfl) kb4, gb4, HB.out.toBelow⟩
end

section
open Go.RowKit


structure Sl where
  a : Option Addr
  c : Nat
  l : List Int
abbrev Sl.cs (x : Sl) : List Value := [.slice x.a x.l.length x.c]
abbrev RdSls := Rd Sl.cs 1
/-- a slice of slices of numbers -/
def RdPlan (w : World) (a : Option Addr) (xs : List Sl) : Prop := RdSls w a xs ∧ ∀ x ∈ xs, RdInts w x.a x.l
theorem RdSls.ne {w : World} {a : Option Addr} {l : List Sl} (h : RdSls w a l) {k : Nat} (hk : k < l.length) :
    ∃ b off, a = some ⟨b, off, none⟩ ∧ b < w.heap.size ∧ w.cell? ⟨b, off + k, none⟩ = some (.slice l[k].a l[k].l.length l[k].c) := by
  obtain ⟨b, off, ha, hb, hc⟩ := Rd.ne h hk; exact ⟨b, off, ha, hb, by simpa using hc 0 _ rfl⟩
theorem take_more {α : Type} [DecidableEq α] {x y : List α} {k : Nat} (hx : k < x.length) (hy : k < y.length) (h : x.take k = y.take k) (hk : x[k] = y[k]) : x.take (k + 1) = y.take (k + 1) := by
  rw [List.take_succ_eq_append_getElem hx, List.take_succ_eq_append_getElem hy, h, hk]

set_option maxRecDepth 100000 in
set_option maxHeartbeats 1000000 in
theorem rspans_any (al : Option Addr) (cl : Nat) (l : List Span) (am : Option Addr) (cm : Nat) (m : List Span) (w : World) (hRl : RdSpans w al l) (hRm : RdSpans w am m) (hll : l.length ≤ 9223372036854775807) (hlm : m.length ≤ 9223372036854775807) :
    Calls Try.prog 33 #[.slice al l.length cl, .slice am m.length cm] w (fun e w' => e = .returned (.bool (decide (l = m))) ∧ Below w.heap.size w w') := by
 have HRl := hid hRl; have HRm := hid hRm; clear hRl hRm
 refine enter_F Try.func33 rfl Try.ntmps33 (by simp) ?_
 intro s0 hs; have sl0 : s0 0 = .slice al l.length cl := hs 0 (by simp); have sl1 : s0 1 = .slice am m.length cm := hs 1 (by simp); clear hs; have HB := hid (OldB.refl [] w)
 repeat ((fail_if_success refine stp ?_); with_reducible go_step)
 refine region_F ?_; refine pl ?_; refine listF_abs (fun s1 z' => ?_); replace sl0 := gs 0 z' sl0; replace sl1 := gs 1 z' sl1; clear z'; refine listF_nil ?_
 repeat ((fail_if_success refine stp ?_); with_reducible go_step)
 refine region_F ?_
 iterate 5 refine pl ?_
 refine listF_abs (fun s2 z' => ?_); replace sl0 := gs 0 z' sl0; replace sl1 := gs 1 z' sl1; have sl10 := gu 10 z'; clear z'; refine listF_nil ?_
 repeat ((fail_if_success refine stp ?_); with_reducible go_step)
 refine cond_E sl10 (by decide) ?_ ?_ <;> (clear sl10; intro h10 sl10)
 ·skip
  have Hne := hid (show ¬ l = m by intro e; subst e; simp at h10)
  repeat ((fail_if_success refine stp ?_); with_reducible go_step)
  refine region_F ?_; refine pl ?_; refine listF_abs (fun s3 z' => ?_); have sl4 := gu 4 z'; clear z' sl0 sl1 sl10; refine listF_nil ?_
  repeat ((fail_if_success refine stp ?_); with_reducible go_step)
  refine ret_F _ (res_t Try.results33 ((getD_F (by decide)).trans sl4)) ?_; exact ⟨by rw [decide_eq_false Hne.out], HB.out.toBelow⟩
 ·skip
  have hlen : l.length = m.length := by simp at h10; omega
  have Hlen := hid hlen; clear hlen
  repeat ((fail_if_success refine stp ?_); with_reducible go_step)
  refine region_F ?_; refine pl ?_; refine listF_abs (fun s4 z' => ?_); replace sl0 := gs 0 z' sl0; replace sl1 := gs 1 z' sl1; have sl5 := gu 5 z'; clear z' sl10; refine listF_nil ?_
  repeat ((fail_if_success refine stp ?_); with_reducible go_step)
  have hc0_0 := hid sl0; have hc0_1 := hid sl1; refine loop_F (n := 26) (fun kJ sJ wJ => ∃ (i : Nat), kJ = l.length - i ∧ sJ 5 = .int .i64 (i : Int) ∧ sJ 0 = s4 0 ∧ sJ 1 = s4 1 ∧ OldB [] w wJ ∧ i ≤ l.length ∧ Hid (l.take i = m.take i)) ⟨0, rfl, (by first | exact sl5 | (rw [sl5]; go_num) | (rw [sl5]; rfl)), rfl, rfl, OldB.refl _ _, Nat.zero_le _, hid (by simp)⟩ ?_; clear sl5; rintro kJ s5 w6 ⟨i, rfl, sl5, e0, e1, hb7, hil, htk⟩; replace sl0 := e0.trans sl0; clear e0; replace sl1 := e1.trans sl1; clear e1; have hoJ := hb7; replace HB := hid (HB.out.more hb7 (by simp; try omega)); clear hb7; have HoJ := hid hoJ; clear hoJ; have HL8 := HoJ; clear HoJ
  repeat ((fail_if_success refine stp ?_); with_reducible go_step)
  refine region_F ?_
  iterate 4 refine pl ?_
  refine listF_abs (fun s9 z' => ?_); replace sl0 := gs 0 z' sl0; replace sl1 := gs 1 z' sl1; replace sl5 := gs 5 z' sl5; have sl14 := gu 14 z'; clear z'; refine listF_nil ?_
  repeat ((fail_if_success refine stp ?_); with_reducible go_step)
  refine cond_E sl14 (by decide) ?_ ?_ <;> (clear sl14; intro h14 sl14)
  ·skip
   have hlt : i < l.length := by simpa using h14
   have hlt2 : i < m.length := by rw [← Hlen.out]; exact hlt
   have hlt' : (i : Int) < l.length := by omega
   have hlt2' : (i : Int) < m.length := by omega
   obtain ⟨b, off, rfl, hbs, c0, c1⟩ := RdSpans.ne (Rd.oldB HRl.out HB.out (by simp)) hlt; obtain ⟨b2, off2, rfl, hbs2, d0, d1⟩ := RdSpans.ne (Rd.oldB HRm.out HB.out (by simp)) hlt2; have wii : IntKind.i64.wrap ((i : Int) + 1) = (i : Int) + 1 := IntWalk.i64_in _ (by omega)
   repeat ((fail_if_success refine stp ?_); with_reducible go_step)
   by_cases e1 : l[i].lo = m[i].lo
   ·skip
    by_cases e2 : l[i].hi = m[i].hi
    ·skip
     have Hee := hid (show l[i] = m[i] by cases hx : l[i]; cases hy : m[i]; rw [hx, hy] at e1 e2; simp at e1 e2; rw [e1, e2]); refine regionQ_F (Below w6.heap.size w6) (by kernel_rfl) (by kernel_rfl) (Below.refl _ _).drew ?_
     iterate 9 refine lq ?_
     refine listQ_nil ?_; intro w10 hb11; replace HL8 := hid (HL8.out.below hb11); replace HB := hid (HB.out.below hb11); clear hb11
     repeat ((fail_if_success refine stp ?_); with_reducible go_step)
     refine wp_abs (fun s12 z' => ?_); replace sl0 := gs 0 z' sl0; replace sl1 := gs 1 z' sl1; replace sl5 := gs 5 z' sl5; have sl25 := gu 25 z'; clear z' sl14
     refine cond_E sl25 (by decide) ?_ ?_ <;> (clear sl25; intro h25 sl25)
     ·skip
      cases h25
     ·skip
      have hkk : l[i] = m[i] := by exact Hee.out
      have Hnx := hid (take_more hlt hlt2 htk.out hkk); clear hkk
      repeat ((fail_if_success refine stp ?_); with_reducible go_step)
      refine region_F ?_
      iterate 3 refine pl ?_
      refine listF_abs (fun s13 z' => ?_); replace sl0 := gs 0 z' sl0; replace sl1 := gs 1 z' sl1; replace sl5 := gu 5 z'; clear z' sl25; refine listF_nil ?_
      repeat ((fail_if_success refine stp ?_); with_reducible go_step)
      refine ⟨_, _, rfl, ?_, i + 1, rfl, (by first | (with_reducible exact sl5) | (rw [sl5]; (with_reducible go_num); done) | (rw [sl5, IntWalk.i64_in] <;> first | ((with_reducible go_num); done) | omega) | (rw [sl5]; go_num; done) | (rw [sl5]; simp; done) | (rw [sl5]; simp; omega)), (sl0.trans hc0_0.out.symm), (sl1.trans hc0_1.out.symm), HL8.out, by omega, Hnx⟩
      omega
    ·skip
     have Hn1 := hid (show ¬ l = m by intro e; subst e; exact e2 rfl); refine regionQ_F (Below w6.heap.size w6) (by kernel_rfl) (by kernel_rfl) (Below.refl _ _).drew ?_
     iterate 9 refine lq ?_
     refine listQ_nil ?_; intro w14 hb15; replace HL8 := hid (HL8.out.below hb15); replace HB := hid (HB.out.below hb15); clear hb15
     repeat ((fail_if_success refine stp ?_); with_reducible go_step)
     refine wp_abs (fun s16 z' => ?_); replace sl0 := gs 0 z' sl0; replace sl1 := gs 1 z' sl1; replace sl5 := gs 5 z' sl5; have sl25 := gu 25 z'; clear z' sl14
     refine cond_E sl25 (by decide) ?_ ?_ <;> (clear sl25; intro h25 sl25)
     ·skip
      have Hne := Hn1
      repeat ((fail_if_success refine stp ?_); with_reducible go_step)
      refine region_F ?_; refine pl ?_; refine listF_abs (fun s17 z' => ?_); have sl4 := gu 4 z'; clear z' sl0 sl1 sl5 sl25; refine listF_nil ?_
      repeat ((fail_if_success refine stp ?_); with_reducible go_step)
      refine ret_F _ (res_t Try.results33 ((getD_F (by decide)).trans sl4)) ?_; exact ⟨by rw [decide_eq_false Hne.out], HB.out.toBelow⟩
     ·skip
      cases h25
   ·skip
    have Hn1 := hid (show ¬ l = m by intro e; subst e; exact e1 rfl); refine regionQ_F (Below w6.heap.size w6) (by kernel_rfl) (by kernel_rfl) (Below.refl _ _).drew ?_
    iterate 9 refine lq ?_
    refine listQ_nil ?_; intro w18 hb19; replace HL8 := hid (HL8.out.below hb19); replace HB := hid (HB.out.below hb19); clear hb19
    repeat ((fail_if_success refine stp ?_); with_reducible go_step)
    refine wp_abs (fun s20 z' => ?_); replace sl0 := gs 0 z' sl0; replace sl1 := gs 1 z' sl1; replace sl5 := gs 5 z' sl5; have sl25 := gu 25 z'; clear z' sl14
    refine cond_E sl25 (by decide) ?_ ?_ <;> (clear sl25; intro h25 sl25)
    ·skip
     have Hne := Hn1
     repeat ((fail_if_success refine stp ?_); with_reducible go_step)
     refine region_F ?_; refine pl ?_; refine listF_abs (fun s21 z' => ?_); have sl4 := gu 4 z'; clear z' sl0 sl1 sl5 sl25; refine listF_nil ?_
     repeat ((fail_if_success refine stp ?_); with_reducible go_step)
     refine ret_F _ (res_t Try.results33 ((getD_F (by decide)).trans sl4)) ?_; exact ⟨by rw [decide_eq_false Hne.out], HB.out.toBelow⟩
    ·skip
     cases h25
  ·skip
   have hge : ¬ i < l.length := by simpa using h14
   have Heq := hid (show l = m by have := htk.out; rwa [List.take_of_length_le (by omega), List.take_of_length_le (by rw [← Hlen.out]; omega)] at this)
   repeat ((fail_if_success refine stp ?_); with_reducible go_step)
   clear HL8; clear hc0_0 hc0_1; refine region_F ?_; refine pl ?_; refine listF_abs (fun s22 z' => ?_); have sl4 := gu 4 z'; clear z' sl0 sl1 sl5 sl14; refine listF_nil ?_
   repeat ((fail_if_success refine stp ?_); with_reducible go_step)
   refine ret_F _ (res_t Try.results33 ((getD_F (by decide)).trans sl4)) ?_; exact ⟨by rw [decide_eq_true Heq.out], HB.out.toBelow⟩

set_option maxRecDepth 100000 in
set_option maxHeartbeats 1000000 in
theorem rints_any (al : Option Addr) (cl : Nat) (l : List Int) (am : Option Addr) (cm : Nat) (m : List Int) (w : World) (hRl : RdInts w al l) (hRm : RdInts w am m) (hll : l.length ≤ 9223372036854775807) (hlm : m.length ≤ 9223372036854775807) :
    Calls Try.prog 34 #[.slice al l.length cl, .slice am m.length cm] w (fun e w' => e = .returned (.bool (decide (l = m))) ∧ Below w.heap.size w w') := by
 have HRl := hid hRl; have HRm := hid hRm; clear hRl hRm
 refine enter_F Try.func34 rfl Try.ntmps34 (by simp) ?_
 intro s0 hs; have sl0 : s0 0 = .slice al l.length cl := hs 0 (by simp); have sl1 : s0 1 = .slice am m.length cm := hs 1 (by simp); clear hs; have HB := hid (OldB.refl [] w)
 repeat ((fail_if_success refine stp ?_); with_reducible go_step)
 refine region_F ?_; refine pl ?_; refine listF_abs (fun s1 z' => ?_); replace sl0 := gs 0 z' sl0; replace sl1 := gs 1 z' sl1; clear z'; refine listF_nil ?_
 repeat ((fail_if_success refine stp ?_); with_reducible go_step)
 refine region_F ?_
 iterate 5 refine pl ?_
 refine listF_abs (fun s2 z' => ?_); replace sl0 := gs 0 z' sl0; replace sl1 := gs 1 z' sl1; have sl10 := gu 10 z'; clear z'; refine listF_nil ?_
 repeat ((fail_if_success refine stp ?_); with_reducible go_step)
 refine cond_E sl10 (by decide) ?_ ?_ <;> (clear sl10; intro h10 sl10)
 ·skip
  have Hne := hid (show ¬ l = m by intro e; subst e; simp at h10)
  repeat ((fail_if_success refine stp ?_); with_reducible go_step)
  refine region_F ?_; refine pl ?_; refine listF_abs (fun s3 z' => ?_); have sl4 := gu 4 z'; clear z' sl0 sl1 sl10; refine listF_nil ?_
  repeat ((fail_if_success refine stp ?_); with_reducible go_step)
  refine ret_F _ (res_t Try.results34 ((getD_F (by decide)).trans sl4)) ?_; exact ⟨by rw [decide_eq_false Hne.out], HB.out.toBelow⟩
 ·skip
  have hlen : l.length = m.length := by simp at h10; omega
  have Hlen := hid hlen; clear hlen
  repeat ((fail_if_success refine stp ?_); with_reducible go_step)
  refine region_F ?_; refine pl ?_; refine listF_abs (fun s4 z' => ?_); replace sl0 := gs 0 z' sl0; replace sl1 := gs 1 z' sl1; have sl5 := gu 5 z'; clear z' sl10; refine listF_nil ?_
  repeat ((fail_if_success refine stp ?_); with_reducible go_step)
  have hc0_0 := hid sl0; have hc0_1 := hid sl1; refine loop_F (n := 26) (fun kJ sJ wJ => ∃ (i : Nat), kJ = l.length - i ∧ sJ 5 = .int .i64 (i : Int) ∧ sJ 0 = s4 0 ∧ sJ 1 = s4 1 ∧ OldB [] w wJ ∧ i ≤ l.length ∧ Hid (l.take i = m.take i)) ⟨0, rfl, (by first | exact sl5 | (rw [sl5]; go_num) | (rw [sl5]; rfl)), rfl, rfl, OldB.refl _ _, Nat.zero_le _, hid (by simp)⟩ ?_; clear sl5; rintro kJ s5 w6 ⟨i, rfl, sl5, e0, e1, hb7, hil, htk⟩; replace sl0 := e0.trans sl0; clear e0; replace sl1 := e1.trans sl1; clear e1; have hoJ := hb7; replace HB := hid (HB.out.more hb7 (by simp; try omega)); clear hb7; have HoJ := hid hoJ; clear hoJ; have HL8 := HoJ; clear HoJ
  repeat ((fail_if_success refine stp ?_); with_reducible go_step)
  refine region_F ?_
  iterate 4 refine pl ?_
  refine listF_abs (fun s9 z' => ?_); replace sl0 := gs 0 z' sl0; replace sl1 := gs 1 z' sl1; replace sl5 := gs 5 z' sl5; have sl14 := gu 14 z'; clear z'; refine listF_nil ?_
  repeat ((fail_if_success refine stp ?_); with_reducible go_step)
  refine cond_E sl14 (by decide) ?_ ?_ <;> (clear sl14; intro h14 sl14)
  ·skip
   have hlt : i < l.length := by simpa using h14
   have hlt2 : i < m.length := by rw [← Hlen.out]; exact hlt
   have hlt' : (i : Int) < l.length := by omega
   have hlt2' : (i : Int) < m.length := by omega
   obtain ⟨b, off, rfl, hbs, c0⟩ := RdInts.ne (Rd.oldB HRl.out HB.out (by simp)) hlt; obtain ⟨b2, off2, rfl, hbs2, d0⟩ := RdInts.ne (Rd.oldB HRm.out HB.out (by simp)) hlt2; have wii : IntKind.i64.wrap ((i : Int) + 1) = (i : Int) + 1 := IntWalk.i64_in _ (by omega)
   repeat ((fail_if_success refine stp ?_); with_reducible go_step)
   refine regionQ_F (Below w6.heap.size w6) (by kernel_rfl) (by kernel_rfl) (Below.refl _ _).drew ?_
   iterate 9 refine lq ?_
   refine listQ_nil ?_; intro w10 hb11; replace HL8 := hid (HL8.out.below hb11); replace HB := hid (HB.out.below hb11); clear hb11
   repeat ((fail_if_success refine stp ?_); with_reducible go_step)
   refine wp_abs (fun s12 z' => ?_); replace sl0 := gs 0 z' sl0; replace sl1 := gs 1 z' sl1; replace sl5 := gs 5 z' sl5; have sl25 := gu 25 z'; clear z' sl14
   refine cond_E sl25 (by decide) ?_ ?_ <;> (clear sl25; intro h25 sl25)
   ·skip
    have Hne := hid (show ¬ l = m by intro e; subst e; simp at h25)
    repeat ((fail_if_success refine stp ?_); with_reducible go_step)
    refine region_F ?_; refine pl ?_; refine listF_abs (fun s13 z' => ?_); have sl4 := gu 4 z'; clear z' sl0 sl1 sl5 sl25; refine listF_nil ?_
    repeat ((fail_if_success refine stp ?_); with_reducible go_step)
    refine ret_F _ (res_t Try.results34 ((getD_F (by decide)).trans sl4)) ?_; exact ⟨by rw [decide_eq_false Hne.out], HB.out.toBelow⟩
   ·skip
    have hkk : l[i] = m[i] := by simpa using h25
    have Hnx := hid (take_more hlt hlt2 htk.out hkk); clear hkk
    repeat ((fail_if_success refine stp ?_); with_reducible go_step)
    refine region_F ?_
    iterate 3 refine pl ?_
    refine listF_abs (fun s14 z' => ?_); replace sl0 := gs 0 z' sl0; replace sl1 := gs 1 z' sl1; replace sl5 := gu 5 z'; clear z' sl25; refine listF_nil ?_
    repeat ((fail_if_success refine stp ?_); with_reducible go_step)
    refine ⟨_, _, rfl, ?_, i + 1, rfl, (by first | (with_reducible exact sl5) | (rw [sl5]; (with_reducible go_num); done) | (rw [sl5, IntWalk.i64_in] <;> first | ((with_reducible go_num); done) | omega) | (rw [sl5]; go_num; done) | (rw [sl5]; simp; done) | (rw [sl5]; simp; omega)), (sl0.trans hc0_0.out.symm), (sl1.trans hc0_1.out.symm), HL8.out, by omega, Hnx⟩
    omega
  ·skip
   have hge : ¬ i < l.length := by simpa using h14
   have Heq := hid (show l = m by have := htk.out; rwa [List.take_of_length_le (by omega), List.take_of_length_le (by rw [← Hlen.out]; omega)] at this)
   repeat ((fail_if_success refine stp ?_); with_reducible go_step)
   clear HL8; clear hc0_0 hc0_1; refine region_F ?_; refine pl ?_; refine listF_abs (fun s15 z' => ?_); have sl4 := gu 4 z'; clear z' sl0 sl1 sl5 sl14; refine listF_nil ?_
   repeat ((fail_if_success refine stp ?_); with_reducible go_step)
   refine ret_F _ (res_t Try.results34 ((getD_F (by decide)).trans sl4)) ?_; exact ⟨by rw [decide_eq_true Heq.out], HB.out.toBelow⟩
end


end Go.Proofs.Ytndcmmghgljinaa
