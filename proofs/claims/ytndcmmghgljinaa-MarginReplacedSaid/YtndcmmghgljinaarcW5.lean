/- The contracts of the reference's small functions. -/
import Derived.Test.YtndcmmghgljinaarcW18
import Derived.Test.YtndcmmghgljinaarcW4
set_option linter.all false
namespace Go.Proofs.Ytndcmmghgljinaa

section
open Go.RowKit

theorem load_t26 {w : World} {b o : Nat} {x0 x1 x2 x3 : Value} (h0 : w.cell? ⟨b, o, none⟩ = some x0) (h1 : w.cell? ⟨b, o + 1, none⟩ = some x1) (h2 : w.cell? ⟨b, o + 2, none⟩ = some x2) (h3 : w.cell? ⟨b, o + 3, none⟩ = some x3) :
    (loadVar 26 ⟨b, o, none⟩).run Try.prog w = .ok (.agg #[x0, x1, x2, x3]) w := by
  simp [go_sem, h0, h1, h2, h3]


abbrev KND : Kd := ⟨1000, ⟨1, 3⟩, [⟨1000, 300⟩, ⟨900, 500⟩, ⟨800, 700⟩]⟩
abbrev CHS : List MCk := [⟨100, 800, true⟩, ⟨200, 800, false⟩, ⟨200, 900, true⟩]

set_option maxRecDepth 100000 in
set_option maxHeartbeats 1000000 in
theorem lspan_any (x y : Int) (w : World) :
    Calls Try.prog 40 #[.int .i64 x, .int .i64 y] w (fun e w' => e = .returned (.agg #[.int .i64 x, .int .i64 y]) ∧ Below w.heap.size w w') := by
 refine enter_F Try.func40 rfl Try.ntmps40 (by simp) ?_
 intro s0 hs; have sl0 : s0 0 = .int .i64 x := hs 0 (by simp); have sl1 : s0 1 = .int .i64 y := hs 1 (by simp); clear hs; have HB := hid (OldB.refl [] w)
 repeat ((fail_if_success refine stp ?_); with_reducible go_step)
 refine region_F ?_; refine pa (fun w1 B4 hB kb4' hb2 => ?_); have gb4 := HB.out.gB hB; have eb4 := eB hB; clear hB; replace HB := hid (HB.out.below hb2); clear hb2; have kb4 := kb4'; clear kb4'; have qb4 := kb4.1; refine listF_abs (fun s3 z' => ?_); replace sl0 := gs 0 z' sl0; replace sl1 := gs 1 z' sl1; have sl4 := gu 4 z'; clear z'; refine listF_nil ?_
 repeat ((fail_if_success refine stp ?_); with_reducible go_step)
 refine region_F ?_
 iterate 3 refine pl ?_
 have cb4_0 := kb4.cell 0 rfl; have cb4_1 := kb4.cell 1 rfl; have zb4 := kb4.2.2; refine pl ?_; refine listF_absw (fun w4 hw' => ?_); have kb4' := cells_of hw' (Cells.set (i := 1) (Cells.set (i := 0) (kb4)))
 (try simp only [vC, List.set_cons_zero, List.set_cons_succ] at kb4')
 have hb5 : OldB [B4] w1 w4 := oldset hw'; clear hw'; clear cb4_0 cb4_1 zb4; clear qb4; replace kb4 := kb4'; replace HB := hid (HB.out.more hb5 (by simp; try omega)); clear hb5; have qb4 := kb4.1; clear kb4'; refine listF_abs (fun s6 z' => ?_); replace sl4 := gs 4 z' sl4; clear z' sl0 sl1; refine listF_nil ?_
 repeat ((fail_if_success refine stp ?_); with_reducible go_step)
 have cb4_0 := kb4.cell 0 rfl; have cb4_1 := kb4.cell 1 rfl; refine ret_F _ (res_c Try.results40 ((getD_F (by decide)).trans sl4) (load_t23 cb4_0 cb4_1)) ?_; exact ⟨rfl, HB.out.toBelow⟩

set_option maxRecDepth 100000 in
set_option maxHeartbeats 1000000 in
theorem kind_any (w : World) :
    Calls Try.prog 38 #[] w (fun e w' => ∃ b, e = .returned (.agg #[.int .i64 1000, .int .i64 1, .int .i64 3, .slice (some ⟨b, 0, none⟩) 3 3]) ∧ RdSteps w' (some ⟨b, 0, none⟩) KND.steps ∧ w.heap.size ≤ b ∧ Below w.heap.size w w') := by
 refine enter_F Try.func38 rfl Try.ntmps38 (by simp) ?_
 intro s0 hs; clear hs; have HB := hid (OldB.refl [] w)
 repeat ((fail_if_success refine stp ?_); with_reducible go_step)
 refine region_F ?_; refine pa (fun w1 B0 hB kb0' hb2 => ?_); have gb0 := HB.out.gB hB; have eb0 := eB hB; clear hB; replace HB := hid (HB.out.below hb2); clear hb2; have kb0 := kb0'; clear kb0'; have qb0 := kb0.1; refine listF_abs (fun s3 z' => ?_); have sl0 := gu 0 z'; clear z'; refine listF_nil ?_
 repeat ((fail_if_success refine stp ?_); with_reducible go_step)
 refine region_F ?_; refine listF_step rfl (fun K' hK => ?_); unfold opF; go_simp; refine (lspan_any 1 3 _).mono ?_; rintro e w4 ⟨rfl, hb5⟩; refine ⟨_, rfl, hK _ _ ?_⟩; clear hK K'; clear qb0; replace kb0 := kb0.at hb5; replace HB := hid (HB.out.below hb5); clear hb5; have qb0 := kb0.1
 iterate 3 refine pl ?_
 refine pas (fun w6 B5 hB kb5' hb7 => ?_); have gb5 := HB.out.gB hB; have ob0_b5 := oB qb0 hB; have eb5 := eB hB; clear hB; clear qb0; replace kb0 := kb0.at hb7; replace HB := hid (HB.out.below hb7); clear hb7; have qb0 := kb0.1; have kb5 := kb5'; clear kb5'; have qb5 := kb5.1; refine pl ?_; have cb0_0 := kb0.cell 0 rfl; have cb0_1 := kb0.cell 1 rfl; have cb0_2 := kb0.cell 2 rfl; have cb0_3 := kb0.cell 3 rfl; have zb0 := kb0.2.2; refine pl ?_; refine listF_absw (fun w8 hw' => ?_); have kb0' := cells_of hw' (Cells.set (i := 3) (Cells.set (i := 2) (Cells.set (i := 1) (Cells.set (i := 0) (kb0)))))
 (try simp only [vC, List.set_cons_zero, List.set_cons_succ] at kb0')
 have hb9 : OldB [B0] w6 w8 := oldset hw'; clear hw'; clear cb0_0 cb0_1 cb0_2 cb0_3 zb0; clear qb0 qb5; replace kb0 := kb0'; replace kb5 := kb5.oldB hb9 (by first | (simp; done) | (simp; omega)); replace HB := hid (HB.out.more hb9 (by simp; try omega)); clear hb9; have qb0 := kb0.1; have qb5 := kb5.1; clear kb0'; refine listF_abs (fun s10 z' => ?_); replace sl0 := gs 0 z' sl0; clear z'; refine listF_nil ?_
 repeat ((fail_if_success refine stp ?_); with_reducible go_step)
 have cb0_0 := kb0.cell 0 rfl; have cb0_1 := kb0.cell 1 rfl; have cb0_2 := kb0.cell 2 rfl; have cb0_3 := kb0.cell 3 rfl; refine ret_F _ (res_c Try.results38 ((getD_F (by decide)).trans sl0) (load_t26 cb0_0 cb0_1 cb0_2 cb0_3)) ?_; exact ⟨B5, rfl, Cells.rd (f := Stp.cs) (m := 2) (l := KND.steps) (fun _ => rfl) kb5, gb5, HB.out.toBelow⟩

set_option maxRecDepth 100000 in
set_option maxHeartbeats 1000000 in
theorem checks_any (w : World) :
    Calls Try.prog 39 #[] w (fun e w' => ∃ b, e = .returned (.slice (some ⟨b, 0, none⟩) 3 3) ∧ RdCks w' (some ⟨b, 0, none⟩) CHS ∧ w.heap.size ≤ b ∧ Below w.heap.size w w') := by
 refine enter_F Try.func39 rfl Try.ntmps39 (by simp) ?_
 intro s0 hs; clear hs; have HB := hid (OldB.refl [] w)
 repeat ((fail_if_success refine stp ?_); with_reducible go_step)
 refine region_F ?_; refine pl ?_; refine listF_abs (fun s1 z' => ?_); clear z'; refine listF_nil ?_
 repeat ((fail_if_success refine stp ?_); with_reducible go_step)
 refine region_F ?_
 iterate 3 refine pl ?_
 refine pas (fun w2 B4 hB kb4' hb3 => ?_); have gb4 := HB.out.gB hB; have eb4 := eB hB; clear hB; replace HB := hid (HB.out.below hb3); clear hb3; have kb4 := kb4'; clear kb4'; have qb4 := kb4.1; refine pl ?_; refine listF_abs (fun s4 z' => ?_); have sl0 := gu 0 z'; clear z'; refine listF_nil ?_
 repeat ((fail_if_success refine stp ?_); with_reducible go_step)
 refine ret_F _ (res_t Try.results39 ((getD_F (by decide)).trans sl0)) ?_; exact ⟨B4, rfl, Cells.rd (f := MCk.cs) (m := 3) (l := CHS) (fun _ => rfl) kb4, gb4, HB.out.toBelow⟩
end

section
open Go.RowKit


structure Sl where
  a : Option Addr
  c : Nat
  l : List Int
abbrev Sl.cs (x : Sl) : List Value := [.slice x.a x.l.length x.c]
abbrev RdSls := Rd Sl.cs 1
/-- a slice of slices of numbers -/
def RdPlan (w : World) (a : Option Addr) (xs : List Sl) : Prop := RdSls w a xs ∧ ∀ x ∈ xs, RdInts w x.a x.l
theorem RdSls.ne {w : World} {a : Option Addr} {l : List Sl} (h : RdSls w a l) {k : Nat} (hk : k < l.length) :
    ∃ b off, a = some ⟨b, off, none⟩ ∧ b < w.heap.size ∧ w.cell? ⟨b, off + k, none⟩ = some (.slice l[k].a l[k].l.length l[k].c) := by
  obtain ⟨b, off, ha, hb, hc⟩ := Rd.ne h hk; exact ⟨b, off, ha, hb, by simpa using hc 0 _ rfl⟩
theorem take_more {α : Type} [DecidableEq α] {x y : List α} {k : Nat} (hx : k < x.length) (hy : k < y.length) (h : x.take k = y.take k) (hk : x[k] = y[k]) : x.take (k + 1) = y.take (k + 1) := by
  rw [List.take_succ_eq_append_getElem hx, List.take_succ_eq_append_getElem hy, h, hk]

set_option maxRecDepth 100000 in
set_option maxHeartbeats 1000000 in
theorem rspans_any (al : Option Addr) (cl : Nat) (l : List Span) (am : Option Addr) (cm : Nat) (m : List Span) (w : World) (hRl : RdSpans w al l) (hRm : RdSpans w am m) (hll : l.length ≤ 9223372036854775807) (hlm : m.length ≤ 9223372036854775807) :
    Calls Try.prog 33 #[.slice al l.length cl, .slice am m.length cm] w (fun e w' => e = .returned (.bool (decide (l = m))) ∧ Below w.heap.size w w') := by
 have HRl := hid hRl; have HRm := hid hRm; clear hRl hRm
 refine enter_F Try.func33 rfl Try.ntmps33 (by simp) ?_
 intro s0 hs; have sl0 : s0 0 = .slice al l.length cl := hs 0 (by simp); have sl1 : s0 1 = .slice am m.length cm := hs 1 (by simp); clear hs; have HB := hid (OldB.refl [] w)
 repeat ((fail_if_success refine stp ?_); with_reducible go_step)
 refine region_F ?_; refine pl ?_; refine listF_abs (fun s1 z' => ?_); replace sl0 := gs 0 z' sl0; replace sl1 := gs 1 z' sl1; clear z'; refine listF_nil ?_
 repeat ((fail_if_success refine stp ?_); with_reducible go_step)
 refine region_F ?_
 iterate 5 refine pl ?_
 refine listF_abs (fun s2 z' => ?_); replace sl0 := gs 0 z' sl0; replace sl1 := gs 1 z' sl1; have sl10 := gu 10 z'; clear z'; refine listF_nil ?_
 repeat ((fail_if_success refine stp ?_); with_reducible go_step)
 refine cond_E sl10 (by decide) ?_ ?_ <;> (clear sl10; intro h10 sl10)
 ·skip
  have Hne := hid (show ¬ l = m by intro e; subst e; simp at h10)
  repeat ((fail_if_success refine stp ?_); with_reducible go_step)
  refine region_F ?_; refine pl ?_; refine listF_abs (fun s3 z' => ?_); have sl4 := gu 4 z'; clear z' sl0 sl1 sl10; refine listF_nil ?_
  repeat ((fail_if_success refine stp ?_); with_reducible go_step)
  refine ret_F _ (res_t Try.results33 ((getD_F (by decide)).trans sl4)) ?_; exact ⟨by rw [decide_eq_false Hne.out], HB.out.toBelow⟩
 ·skip
  have hlen : l.length = m.length := by simp at h10; omega
  have Hlen := hid hlen; clear hlen
  repeat ((fail_if_success refine stp ?_); with_reducible go_step)
  refine region_F ?_; refine pl ?_; refine listF_abs (fun s4 z' => ?_); replace sl0 := gs 0 z' sl0; replace sl1 := gs 1 z' sl1; have sl5 := gu 5 z'; clear z' sl10; refine listF_nil ?_
  repeat ((fail_if_success refine stp ?_); with_reducible go_step)
  have hc0_0 := hid sl0; have hc0_1 := hid sl1; refine loop_F (n := 26) (fun kJ sJ wJ => ∃ (i : Nat), kJ = l.length - i ∧ sJ 5 = .int .i64 (i : Int) ∧ sJ 0 = s4 0 ∧ sJ 1 = s4 1 ∧ OldB [] w wJ ∧ i ≤ l.length ∧ Hid (l.take i = m.take i)) ⟨0, rfl, (by first | exact sl5 | (rw [sl5]; go_num) | (rw [sl5]; rfl)), rfl, rfl, OldB.refl _ _, Nat.zero_le _, hid (by simp)⟩ ?_; clear sl5; rintro kJ s5 w6 ⟨i, rfl, sl5, e0, e1, hb7, hil, htk⟩; replace sl0 := e0.trans sl0; clear e0; replace sl1 := e1.trans sl1; clear e1; have hoJ := hb7; replace HB := hid (HB.out.more hb7 (by simp; try omega)); clear hb7; have HoJ := hid hoJ; clear hoJ; have HL8 := HoJ; clear HoJ
  repeat ((fail_if_success refine stp ?_); with_reducible go_step)
  refine region_F ?_
  iterate 4 refine pl ?_
  refine listF_abs (fun s9 z' => ?_); replace sl0 := gs 0 z' sl0; replace sl1 := gs 1 z' sl1; replace sl5 := gs 5 z' sl5; have sl14 := gu 14 z'; clear z'; refine listF_nil ?_
  repeat ((fail_if_success refine stp ?_); with_reducible go_step)
  refine cond_E sl14 (by decide) ?_ ?_ <;> (clear sl14; intro h14 sl14)
  ·skip
   have hlt : i < l.length := by simpa using h14
   have hlt2 : i < m.length := by rw [← Hlen.out]; exact hlt
   have hlt' : (i : Int) < l.length := by omega
   have hlt2' : (i : Int) < m.length := by omega
   obtain ⟨b, off, rfl, hbs, c0, c1⟩ := RdSpans.ne (Rd.oldB HRl.out HB.out (by simp)) hlt; obtain ⟨b2, off2, rfl, hbs2, d0, d1⟩ := RdSpans.ne (Rd.oldB HRm.out HB.out (by simp)) hlt2; have wii : IntKind.i64.wrap ((i : Int) + 1) = (i : Int) + 1 := IntWalk.i64_in _ (by omega)
   repeat ((fail_if_success refine stp ?_); with_reducible go_step)
   by_cases e1 : l[i].lo = m[i].lo
   ·skip
    by_cases e2 : l[i].hi = m[i].hi
    ·skip
     have Hee := hid (show l[i] = m[i] by cases hx : l[i]; cases hy : m[i]; rw [hx, hy] at e1 e2; simp at e1 e2; rw [e1, e2]); refine regionQ_F (Below w6.heap.size w6) (by kernel_rfl) (by kernel_rfl) (Below.refl _ _).drew ?_
     iterate 9 refine lq ?_
     refine listQ_nil ?_; intro w10 hb11; replace HL8 := hid (HL8.out.below hb11); replace HB := hid (HB.out.below hb11); clear hb11
     repeat ((fail_if_success refine stp ?_); with_reducible go_step)
     refine wp_abs (fun s12 z' => ?_); replace sl0 := gs 0 z' sl0; replace sl1 := gs 1 z' sl1; replace sl5 := gs 5 z' sl5; have sl25 := gu 25 z'; clear z' sl14
     refine cond_E sl25 (by decide) ?_ ?_ <;> (clear sl25; intro h25 sl25)
     ·skip
      cases h25
     ·skip
      have hkk : l[i] = m[i] := by exact Hee.out
      have Hnx := hid (take_more hlt hlt2 htk.out hkk); clear hkk
      repeat ((fail_if_success refine stp ?_); with_reducible go_step)
      refine region_F ?_
      iterate 3 refine pl ?_
      refine listF_abs (fun s13 z' => ?_); replace sl0 := gs 0 z' sl0; replace sl1 := gs 1 z' sl1; replace sl5 := gu 5 z'; clear z' sl25; refine listF_nil ?_
      repeat ((fail_if_success refine stp ?_); with_reducible go_step)
      refine ⟨_, _, rfl, ?_, i + 1, rfl, (by first | (with_reducible exact sl5) | (rw [sl5]; (with_reducible go_num); done) | (rw [sl5, IntWalk.i64_in] <;> first | ((with_reducible go_num); done) | omega) | (rw [sl5]; go_num; done) | (rw [sl5]; simp; done) | (rw [sl5]; simp; omega)), (sl0.trans hc0_0.out.symm), (sl1.trans hc0_1.out.symm), HL8.out, by omega, Hnx⟩
      omega
    ·skip
     have Hn1 := hid (show ¬ l = m by intro e; subst e; exact e2 rfl); refine regionQ_F (Below w6.heap.size w6) (by kernel_rfl) (by kernel_rfl) (Below.refl _ _).drew ?_
     iterate 9 refine lq ?_
     refine listQ_nil ?_; intro w14 hb15; replace HL8 := hid (HL8.out.below hb15); replace HB := hid (HB.out.below hb15); clear hb15
     repeat ((fail_if_success refine stp ?_); with_reducible go_step)
     refine wp_abs (fun s16 z' => ?_); replace sl0 := gs 0 z' sl0; replace sl1 := gs 1 z' sl1; replace sl5 := gs 5 z' sl5; have sl25 := gu 25 z'; clear z' sl14
     refine cond_E sl25 (by decide) ?_ ?_ <;> (clear sl25; intro h25 sl25)
     ·skip
      have Hne := Hn1
      repeat ((fail_if_success refine stp ?_); with_reducible go_step)
      refine region_F ?_; refine pl ?_; refine listF_abs (fun s17 z' => ?_); have sl4 := gu 4 z'; clear z' sl0 sl1 sl5 sl25; refine listF_nil ?_
      repeat ((fail_if_success refine stp ?_); with_reducible go_step)
      refine ret_F _ (res_t Try.results33 ((getD_F (by decide)).trans sl4)) ?_; exact ⟨by rw [decide_eq_false Hne.out], HB.out.toBelow⟩
     ·skip
      cases h25
   ·skip
    have Hn1 := hid (show ¬ l = m by intro e; subst e; exact e1 rfl); refine regionQ_F (Below w6.heap.size w6) (by kernel_rfl) (by kernel_rfl) (Below.refl _ _).drew ?_
    iterate 9 refine lq ?_
    refine listQ_nil ?_; intro w18 hb19; replace HL8 := hid (HL8.out.below hb19); replace HB := hid (HB.out.below hb19); clear hb19
    repeat ((fail_if_success refine stp ?_); with_reducible go_step)
    refine wp_abs (fun s20 z' => ?_); replace sl0 := gs 0 z' sl0; replace sl1 := gs 1 z' sl1; replace sl5 := gs 5 z' sl5; have sl25 := gu 25 z'; clear z' sl14
    refine cond_E sl25 (by decide) ?_ ?_ <;> (clear sl25; intro h25 sl25)
    ·skip
     have Hne := Hn1
     repeat ((fail_if_success refine stp ?_); with_reducible go_step)
     refine region_F ?_; refine pl ?_; refine listF_abs (fun s21 z' => ?_); have sl4 := gu 4 z'; clear z' sl0 sl1 sl5 sl25; refine listF_nil ?_
     repeat ((fail_if_success refine stp ?_); with_reducible go_step)
     refine ret_F _ (res_t Try.results33 ((getD_F (by decide)).trans sl4)) ?_; exact ⟨by rw [decide_eq_false Hne.out], HB.out.toBelow⟩
    ·skip
     cases h25
  ·skip
   have hge : ¬ i < l.length := by simpa using h14
   have Heq := hid (show l = m by have := htk.out; rwa [List.take_of_length_le (by omega), List.take_of_length_le (by rw [← Hlen.out]; omega)] at this)
   repeat ((fail_if_success refine stp ?_); with_reducible go_step)
   clear HL8; clear hc0_0 hc0_1; refine region_F ?_; refine pl ?_; refine listF_abs (fun s22 z' => ?_); have sl4 := gu 4 z'; clear z' sl0 sl1 sl5 sl14; refine listF_nil ?_
   repeat ((fail_if_success refine stp ?_); with_reducible go_step)
   refine ret_F _ (res_t Try.results33 ((getD_F (by decide)).trans sl4)) ?_; exact ⟨by rw [decide_eq_true Heq.out], HB.out.toBelow⟩

set_option maxRecDepth 100000 in
set_option maxHeartbeats 1000000 in
theorem rints_any (al : Option Addr) (cl : Nat) (l : List Int) (am : Option Addr) (cm : Nat) (m : List Int) (w : World) (hRl : RdInts w al l) (hRm : RdInts w am m) (hll : l.length ≤ 9223372036854775807) (hlm : m.length ≤ 9223372036854775807) :
    Calls Try.prog 34 #[.slice al l.length cl, .slice am m.length cm] w (fun e w' => e = .returned (.bool (decide (l = m))) ∧ Below w.heap.size w w') := by
 have HRl := hid hRl; have HRm := hid hRm; clear hRl hRm
 refine enter_F Try.func34 rfl Try.ntmps34 (by simp) ?_
 intro s0 hs; have sl0 : s0 0 = .slice al l.length cl := hs 0 (by simp); have sl1 : s0 1 = .slice am m.length cm := hs 1 (by simp); clear hs; have HB := hid (OldB.refl [] w)
 repeat ((fail_if_success refine stp ?_); with_reducible go_step)
 refine region_F ?_; refine pl ?_; refine listF_abs (fun s1 z' => ?_); replace sl0 := gs 0 z' sl0; replace sl1 := gs 1 z' sl1; clear z'; refine listF_nil ?_
 repeat ((fail_if_success refine stp ?_); with_reducible go_step)
 refine region_F ?_
 iterate 5 refine pl ?_
 refine listF_abs (fun s2 z' => ?_); replace sl0 := gs 0 z' sl0; replace sl1 := gs 1 z' sl1; have sl10 := gu 10 z'; clear z'; refine listF_nil ?_
 repeat ((fail_if_success refine stp ?_); with_reducible go_step)
 refine cond_E sl10 (by decide) ?_ ?_ <;> (clear sl10; intro h10 sl10)
 ·skip
  have Hne := hid (show ¬ l = m by intro e; subst e; simp at h10)
  repeat ((fail_if_success refine stp ?_); with_reducible go_step)
  refine region_F ?_; refine pl ?_; refine listF_abs (fun s3 z' => ?_); have sl4 := gu 4 z'; clear z' sl0 sl1 sl10; refine listF_nil ?_
  repeat ((fail_if_success refine stp ?_); with_reducible go_step)
  refine ret_F _ (res_t Try.results34 ((getD_F (by decide)).trans sl4)) ?_; exact ⟨by rw [decide_eq_false Hne.out], HB.out.toBelow⟩
 ·skip
  have hlen : l.length = m.length := by simp at h10; omega
  have Hlen := hid hlen; clear hlen
  repeat ((fail_if_success refine stp ?_); with_reducible go_step)
  refine region_F ?_; refine pl ?_; refine listF_abs (fun s4 z' => ?_); replace sl0 := gs 0 z' sl0; replace sl1 := gs 1 z' sl1; have sl5 := gu 5 z'; clear z' sl10; refine listF_nil ?_
  repeat ((fail_if_success refine stp ?_); with_reducible go_step)
  have hc0_0 := hid sl0; have hc0_1 := hid sl1; refine loop_F (n := 26) (fun kJ sJ wJ => ∃ (i : Nat), kJ = l.length - i ∧ sJ 5 = .int .i64 (i : Int) ∧ sJ 0 = s4 0 ∧ sJ 1 = s4 1 ∧ OldB [] w wJ ∧ i ≤ l.length ∧ Hid (l.take i = m.take i)) ⟨0, rfl, (by first | exact sl5 | (rw [sl5]; go_num) | (rw [sl5]; rfl)), rfl, rfl, OldB.refl _ _, Nat.zero_le _, hid (by simp)⟩ ?_; clear sl5; rintro kJ s5 w6 ⟨i, rfl, sl5, e0, e1, hb7, hil, htk⟩; replace sl0 := e0.trans sl0; clear e0; replace sl1 := e1.trans sl1; clear e1; have hoJ := hb7; replace HB := hid (HB.out.more hb7 (by simp; try omega)); clear hb7; have HoJ := hid hoJ; clear hoJ; have HL8 := HoJ; clear HoJ
  repeat ((fail_if_success refine stp ?_); with_reducible go_step)
  refine region_F ?_
  iterate 4 refine pl ?_
  refine listF_abs (fun s9 z' => ?_); replace sl0 := gs 0 z' sl0; replace sl1 := gs 1 z' sl1; replace sl5 := gs 5 z' sl5; have sl14 := gu 14 z'; clear z'; refine listF_nil ?_
  repeat ((fail_if_success refine stp ?_); with_reducible go_step)
  refine cond_E sl14 (by decide) ?_ ?_ <;> (clear sl14; intro h14 sl14)
  ·skip
   have hlt : i < l.length := by simpa using h14
   have hlt2 : i < m.length := by rw [← Hlen.out]; exact hlt
   have hlt' : (i : Int) < l.length := by omega
   have hlt2' : (i : Int) < m.length := by omega
   obtain ⟨b, off, rfl, hbs, c0⟩ := RdInts.ne (Rd.oldB HRl.out HB.out (by simp)) hlt; obtain ⟨b2, off2, rfl, hbs2, d0⟩ := RdInts.ne (Rd.oldB HRm.out HB.out (by simp)) hlt2; have wii : IntKind.i64.wrap ((i : Int) + 1) = (i : Int) + 1 := IntWalk.i64_in _ (by omega)
   repeat ((fail_if_success refine stp ?_); with_reducible go_step)
   refine regionQ_F (Below w6.heap.size w6) (by kernel_rfl) (by kernel_rfl) (Below.refl _ _).drew ?_
   iterate 9 refine lq ?_
   refine listQ_nil ?_; intro w10 hb11; replace HL8 := hid (HL8.out.below hb11); replace HB := hid (HB.out.below hb11); clear hb11
   repeat ((fail_if_success refine stp ?_); with_reducible go_step)
   refine wp_abs (fun s12 z' => ?_); replace sl0 := gs 0 z' sl0; replace sl1 := gs 1 z' sl1; replace sl5 := gs 5 z' sl5; have sl25 := gu 25 z'; clear z' sl14
   refine cond_E sl25 (by decide) ?_ ?_ <;> (clear sl25; intro h25 sl25)
   ·skip
    have Hne := hid (show ¬ l = m by intro e; subst e; simp at h25)
    repeat ((fail_if_success refine stp ?_); with_reducible go_step)
    refine region_F ?_; refine pl ?_; refine listF_abs (fun s13 z' => ?_); have sl4 := gu 4 z'; clear z' sl0 sl1 sl5 sl25; refine listF_nil ?_
    repeat ((fail_if_success refine stp ?_); with_reducible go_step)
    refine ret_F _ (res_t Try.results34 ((getD_F (by decide)).trans sl4)) ?_; exact ⟨by rw [decide_eq_false Hne.out], HB.out.toBelow⟩
   ·skip
    have hkk : l[i] = m[i] := by simpa using h25
    have Hnx := hid (take_more hlt hlt2 htk.out hkk); clear hkk
    repeat ((fail_if_success refine stp ?_); with_reducible go_step)
    refine region_F ?_
    iterate 3 refine pl ?_
    refine listF_abs (fun s14 z' => ?_); replace sl0 := gs 0 z' sl0; replace sl1 := gs 1 z' sl1; replace sl5 := gu 5 z'; clear z' sl25; refine listF_nil ?_
    repeat ((fail_if_success refine stp ?_); with_reducible go_step)
    refine ⟨_, _, rfl, ?_, i + 1, rfl, (by first | (with_reducible exact sl5) | (rw [sl5]; (with_reducible go_num); done) | (rw [sl5, IntWalk.i64_in] <;> first | ((with_reducible go_num); done) | omega) | (rw [sl5]; go_num; done) | (rw [sl5]; simp; done) | (rw [sl5]; simp; omega)), (sl0.trans hc0_0.out.symm), (sl1.trans hc0_1.out.symm), HL8.out, by omega, Hnx⟩
    omega
  ·skip
   have hge : ¬ i < l.length := by simpa using h14
   have Heq := hid (show l = m by have := htk.out; rwa [List.take_of_length_le (by omega), List.take_of_length_le (by rw [← Hlen.out]; omega)] at this)
   repeat ((fail_if_success refine stp ?_); with_reducible go_step)
   clear HL8; clear hc0_0 hc0_1; refine region_F ?_; refine pl ?_; refine listF_abs (fun s15 z' => ?_); have sl4 := gu 4 z'; clear z' sl0 sl1 sl5 sl14; refine listF_nil ?_
   repeat ((fail_if_success refine stp ?_); with_reducible go_step)
   refine ret_F _ (res_t Try.results34 ((getD_F (by decide)).trans sl4)) ?_; exact ⟨by rw [decide_eq_true Heq.out], HB.out.toBelow⟩
end

section
open Go.RowKit


theorem RdSteps.get {w : World} {b off : Nat} {l : List Stp} (h : RdSteps w (some ⟨b, off, none⟩) l) {k : Nat} (hk : k < l.length) :
    b < w.heap.size ∧ w.cell? ⟨b, off + k * 2, none⟩ = some (.int .i64 l[k].volt) ∧ w.cell? ⟨b, off + k * 2 + 1, none⟩ = some (.int .i64 l[k].need) := by
  obtain ⟨hb, hc⟩ := Rd.get h hk; exact ⟨hb, hc 0 _ rfl, hc 1 _ rfl⟩
theorem bne_or (a b : Int) : (a != b) = true ∨ (a != b) = false := by cases h : a != b <;> simp
theorem stp_z {k : Kd} (h : stpIn k 0) : stpErr k.steps 0 = if (k.steps[0]'h.1).volt ≠ 1000 then 2 else 0 := by
  obtain ⟨hi, h1, h2⟩ := h; unfold stpErr; rw [getD_get hi, if_neg (by simp only [not_or, Bool.not_eq_false, inb_iff]; exact ⟨h1, h2⟩)]
  simp
theorem stp_p {k : Kd} {m : Nat} (h : stpIn k (m + 1)) : stpErr k.steps (m + 1) = if (k.steps[m]'(by have := h.1; omega)).volt ≤ (k.steps[m + 1]'h.1).volt ∨ (k.steps[m + 1]'h.1).need < (k.steps[m]'(by have := h.1; omega)).need then 2 else 0 := by
  obtain ⟨hi, h1, h2⟩ := h; unfold stpErr; rw [getD_get hi, if_neg (by simp only [not_or, Bool.not_eq_false, inb_iff]; exact ⟨h1, h2⟩), Nat.add_sub_cancel, getD_get (show m < k.steps.length by omega)]
  simp

set_option maxRecDepth 100000 in
set_option maxHeartbeats 1000000 in
theorem rcheck_any (k : Kd) (a : Option Addr) (c : Nat) (w : World) (hsl : k.steps.length ≤ 9223372036854775807) (hR : RdSteps w a k.steps) :
    Calls Try.prog 21 #[.agg #[.int .i64 k.new, .int .i64 k.wear.lo, .int .i64 k.wear.hi, .slice a k.steps.length c]] w (fun e w' => e = .returned (.int .i64 (kdErr k)) ∧ Below w.heap.size w w') := by
 have HR := hid hR; clear hR
 refine enter_F Try.func21 rfl Try.ntmps21 (by simp) ?_
 intro s0 hs; have sl0 : s0 0 = .agg #[.int .i64 k.new, .int .i64 k.wear.lo, .int .i64 k.wear.hi, .slice a k.steps.length c] := hs 0 (by simp); clear hs; have HB := hid (OldB.refl [] w)
 repeat ((fail_if_success refine stp ?_); with_reducible go_step)
 refine region_F ?_; refine pa (fun w1 B1 hB kb1' hb2 => ?_); have gb1 := HB.out.gB hB; have eb1 := eB hB; clear hB; replace HB := hid (HB.out.below hb2); clear hb2; have kb1 := kb1'; clear kb1'; have qb1 := kb1.1; refine pl ?_; refine listF_abs (fun s3 z' => ?_); have sl1 := gu 1 z'; clear z' sl0; refine listF_nil ?_
 repeat ((fail_if_success refine stp ?_); with_reducible go_step)
 refine region_F ?_; refine pl ?_; have cb1_0 := kb1.cell 0 rfl; have cb1_1 := kb1.cell 1 rfl; have cb1_2 := kb1.cell 2 rfl; have cb1_3 := kb1.cell 3 rfl; refine pl ?_; refine listF_step rfl (fun K' hK => ?_); unfold opF; go_simp; refine (rin_any k.new 1 1000000 _).mono ?_; rintro e w' ⟨rfl, rfl⟩; refine ⟨_, rfl, hK _ _ ?_⟩; clear hK K'; refine pl ?_; refine pl ?_; refine listF_abs (fun s5 z' => ?_); replace sl1 := gs 1 z' sl1; have sl9 := gu 9 z'; clear z'
 refine boolG sl9 (fun sl9' h9 => ?_) (fun sl9' h9 => ?_) <;> (clear sl9; have sl9 := sl9'; clear sl9')
 ·skip
  have He := hid (kdErr_1 (k := k) (.inl (by rw [← inb_iff]; simpa using h9)))
  refine pn true ?_
  refine pn true ?_
  refine pn true ?_; refine pn true ?_; refine pn true ?_; refine pl ?_; refine pl ?_
  refine pn true ?_
  refine pn true ?_
  refine pn true ?_; refine pn true ?_; refine pn true ?_; refine pl ?_; refine listF_abs (fun s6 z' => ?_); replace sl1 := gs 1 z' sl1; have sl22 := gu 22 z'; clear z' sl9; refine listF_nil ?_
  repeat ((fail_if_success refine stp ?_); with_reducible go_step)
  refine cond_t ?_
  repeat ((fail_if_success refine stp ?_); with_reducible go_step)
  refine region_F ?_; refine pl ?_; refine listF_abs (fun s7 z' => ?_); have sl2 := gu 2 z'; clear z' sl1 sl22; refine listF_nil ?_
  repeat ((fail_if_success refine stp ?_); with_reducible go_step)
  refine ret_F _ (res_t Try.results21 ((getD_F (by decide)).trans sl2)) ?_; exact ⟨ret_int He.out.symm, HB.out.toBelow⟩
 ·skip
  have e1 : inb k.new 1 1000000 = true := by simpa using h9
  iterate 3 refine py ?_
  refine listF_yes rfl rfl (by decide) ?_ (fun K' hK => ?_); (focus (go_simp; done)); unfold opF; go_simp; refine (rin_any k.wear.lo 0 1000 _).mono ?_; rintro e w' ⟨rfl, rfl⟩; refine ⟨_, rfl, hK _ _ ?_⟩; clear hK K'; refine py ?_; refine pl ?_; refine pl ?_; refine listF_abs (fun s9 z' => ?_); replace sl1 := gs 1 z' sl1; have sl16 := gu 16 z'; clear z' sl9
  refine boolG sl16 (fun sl16' h16 => ?_) (fun sl16' h16 => ?_) <;> (clear sl16; have sl16 := sl16'; clear sl16')
  ·skip
   have He := hid (kdErr_1 (k := k) (.inr (.inl (by rw [← inb_iff]; simpa using h16))))
   refine pn true ?_
   refine pn true ?_
   refine pn true ?_; refine pn true ?_; refine pn true ?_; refine pl ?_; refine listF_abs (fun s10 z' => ?_); replace sl1 := gs 1 z' sl1; have sl22 := gu 22 z'; clear z' sl16; refine listF_nil ?_
   repeat ((fail_if_success refine stp ?_); with_reducible go_step)
   refine cond_t ?_
   repeat ((fail_if_success refine stp ?_); with_reducible go_step)
   refine region_F ?_; refine pl ?_; refine listF_abs (fun s11 z' => ?_); have sl2 := gu 2 z'; clear z' sl1 sl22; refine listF_nil ?_
   repeat ((fail_if_success refine stp ?_); with_reducible go_step)
   refine ret_F _ (res_t Try.results21 ((getD_F (by decide)).trans sl2)) ?_; exact ⟨ret_int He.out.symm, HB.out.toBelow⟩
  ·skip
   have e2 : inb k.wear.lo 0 1000 = true := by simpa using h16
   iterate 3 refine py ?_
   refine listF_yes rfl rfl (by decide) ?_ (fun K' hK => ?_); (focus (go_simp; done)); unfold opF; go_simp; refine (rin_any k.wear.hi 0 1000 _).mono ?_; rintro e w' ⟨rfl, rfl⟩; refine ⟨_, rfl, hK _ _ ?_⟩; clear hK K'; refine py ?_; refine pl ?_; refine listF_abs (fun s13 z' => ?_); replace sl1 := gs 1 z' sl1; have sl22 := gu 22 z'; clear z' sl16; refine listF_nil ?_
   repeat ((fail_if_success refine stp ?_); with_reducible go_step)
   refine cond_E sl22 (by decide) ?_ ?_ <;> (clear sl22; intro h22 sl22)
   ·skip
    have He := hid (kdErr_1 (k := k) (.inr (.inr (by rw [← inb_iff]; simpa using h22))))
    repeat ((fail_if_success refine stp ?_); with_reducible go_step)
    refine region_F ?_; refine pl ?_; refine listF_abs (fun s14 z' => ?_); have sl2 := gu 2 z'; clear z' sl1 sl22; refine listF_nil ?_
    repeat ((fail_if_success refine stp ?_); with_reducible go_step)
    refine ret_F _ (res_t Try.results21 ((getD_F (by decide)).trans sl2)) ?_; exact ⟨ret_int He.out.symm, HB.out.toBelow⟩
   ·skip
    have e3 : inb k.wear.hi 0 1000 = true := by simpa using h22
    have Hh := hid (show kHead k from ⟨(inb_iff _ _ _).1 e1, (inb_iff _ _ _).1 e2, (inb_iff _ _ _).1 e3⟩); clear e1 e2 e3 h9 h16 h22
    repeat ((fail_if_success refine stp ?_); with_reducible go_step)
    refine region_F ?_
    iterate 7 refine pl ?_
    refine listF_abs (fun s15 z' => ?_); replace sl1 := gs 1 z' sl1; have sl29 := gu 29 z'; clear z' sl22; refine listF_nil ?_
    repeat ((fail_if_success refine stp ?_); with_reducible go_step)
    refine cond_E sl29 (by decide) ?_ ?_ <;> (clear sl29; intro h29 sl29)
    ·skip
     have He := hid (kdErr_2 Hh.out (by simpa using h29))
     repeat ((fail_if_success refine stp ?_); with_reducible go_step)
     refine region_F ?_; refine pl ?_; refine listF_abs (fun s16 z' => ?_); have sl2 := gu 2 z'; clear z' sl1 sl29; refine listF_nil ?_
     repeat ((fail_if_success refine stp ?_); with_reducible go_step)
     refine ret_F _ (res_t Try.results21 ((getD_F (by decide)).trans sl2)) ?_; exact ⟨ret_int He.out.symm, HB.out.toBelow⟩
    ·skip
     have Hw := hid (show ¬ k.wear.hi < k.wear.lo by simpa using h29); clear h29
     repeat ((fail_if_success refine stp ?_); with_reducible go_step)
     refine region_F ?_
     iterate 3 refine pl ?_
     refine listF_step rfl (fun K' hK => ?_); unfold opF; go_simp; refine (rin_any k.steps.length 1 8 _).mono ?_; rintro e w' ⟨rfl, rfl⟩; refine ⟨_, rfl, hK _ _ ?_⟩; clear hK K'; refine pl ?_; refine listF_abs (fun s18 z' => ?_); replace sl1 := gs 1 z' sl1; have sl34 := gu 34 z'; clear z' sl29; refine listF_nil ?_
     repeat ((fail_if_success refine stp ?_); with_reducible go_step)
     refine cond_E sl34 (by decide) ?_ ?_ <;> (clear sl34; intro h34 sl34)
     ·skip
      have He := hid (kdErr_3 Hh.out Hw.out (by have h : ¬ inb (k.steps.length : Int) 1 8 = true := (by simpa using h34); rw [inb_iff] at h; omega))
      repeat ((fail_if_success refine stp ?_); with_reducible go_step)
      refine region_F ?_; refine pl ?_; refine listF_abs (fun s19 z' => ?_); have sl2 := gu 2 z'; clear z' sl1 sl34; refine listF_nil ?_
      repeat ((fail_if_success refine stp ?_); with_reducible go_step)
      refine ret_F _ (res_t Try.results21 ((getD_F (by decide)).trans sl2)) ?_; exact ⟨ret_int He.out.symm, HB.out.toBelow⟩
     ·skip
      have e4 := (inb_iff (k.steps.length : Int) 1 8).1 (by simpa using h34); have Hl := hid (show ¬ (k.steps.length = 0 ∨ 8 < k.steps.length) by omega)
      have hl8 : k.steps.length ≤ 8 := by omega
      clear e4 h34
      repeat ((fail_if_success refine stp ?_); with_reducible go_step)
      refine region_F ?_; refine pl ?_; refine listF_abs (fun s20 z' => ?_); replace sl1 := gs 1 z' sl1; have sl3 := gu 3 z'; clear z' sl34; refine listF_nil ?_
      repeat ((fail_if_success refine stp ?_); with_reducible go_step)
      clear cb1_0 cb1_1 cb1_2 cb1_3; have hc0_1 := hid sl1; refine loop_F (n := 92) (fun kJ sJ wJ => ∃ (i : Nat), kJ = k.steps.length - i ∧ sJ 3 = .int .i64 (i : Int) ∧ sJ 1 = s20 1 ∧ OldB [] w1 wJ ∧ (Hid (∀ j, j < i → stpErr k.steps j = 0)) ∧ i ≤ k.steps.length) ⟨0, rfl, (by first | exact sl3 | (rw [sl3]; go_num) | (rw [sl3]; rfl)), rfl, OldB.refl _ _, hid (fun j hj => by omega), Nat.zero_le _⟩ ?_; clear sl3; rintro kJ s21 w22 ⟨i, rfl, sl3, e1, hb23, hp, hle⟩; replace sl1 := e1.trans sl1; clear e1; have hoJ := hb23; clear qb1; replace kb1 := kb1.oldB hb23 (by first | (simp; done) | (simp; omega)); replace HB := hid (HB.out.more hb23 (by simp; try omega)); clear hb23; have qb1 := kb1.1; have HoJ := hid hoJ; clear hoJ; have HL24 := HoJ; clear HoJ
      repeat ((fail_if_success refine stp ?_); with_reducible go_step)
      refine region_F ?_; refine pl ?_; refine pl ?_; have cb1_0 := kb1.cell 0 rfl; have cb1_1 := kb1.cell 1 rfl; have cb1_2 := kb1.cell 2 rfl; have cb1_3 := kb1.cell 3 rfl
      iterate 3 refine pl ?_
      refine listF_abs (fun s25 z' => ?_); replace sl1 := gs 1 z' sl1; replace sl3 := gs 3 z' sl3; have sl39 := gu 39 z'; clear z'; refine listF_nil ?_
      repeat ((fail_if_success refine stp ?_); with_reducible go_step)
      refine cond_E sl39 (by decide) ?_ ?_ <;> (clear sl39; intro h39 sl39)
      ·skip
       have hlt : i < k.steps.length := by simpa using h39
       obtain ⟨b, off, rfl, hbs, c0, c1⟩ := RdSteps.ne (Rd.oldB HR.out HB.out (by simp)) hlt
       repeat ((fail_if_success refine stp ?_); with_reducible go_step)
       refine region_F ?_
       iterate 5 refine pl ?_
       refine pa (fun w26 B4 hB kb4' hb27 => ?_); have gb4 := HB.out.gB hB; have lHL24_b4 := HL24.out.gB hB; have ob1_b4 := oB qb1 hB; have eb4 := eB hB; clear hB; clear cb1_0 cb1_1 cb1_2 cb1_3; clear qb1; replace kb1 := kb1.at hb27; replace HL24 := hid (HL24.out.below hb27); replace HB := hid (HB.out.below hb27); clear hb27; have qb1 := kb1.1; have kb4 := kb4'; clear kb4'; have qb4 := kb4.1; have cb4_0 := kb4.cell 0 rfl; have cb4_1 := kb4.cell 1 rfl; have zb4 := kb4.2.2; refine pl ?_; refine listF_absw (fun w28 hw' => ?_); have kb4' := cells_of hw' (Cells.set (i := 1) (Cells.set (i := 0) (kb4)))
       (try simp only [vC, List.set_cons_zero, List.set_cons_succ] at kb4')
       have hb29 : OldB [B4] w26 w28 := oldset hw'; clear hw'; clear cb4_0 cb4_1 zb4; clear qb1 qb4; replace kb4 := kb4'; replace kb1 := kb1.oldB hb29 (by first | (simp; done) | (simp; omega)); replace HL24 := hid (HL24.out.more hb29 (by simp; try omega)); replace HB := hid (HB.out.more hb29 (by simp; try omega)); clear hb29; have qb1 := kb1.1; have qb4 := kb4.1; clear kb4'; refine listF_abs (fun s30 z' => ?_); replace sl1 := gs 1 z' sl1; replace sl3 := gs 3 z' sl3; have sl4 := gu 4 z'; clear z' sl39; refine listF_nil ?_
       repeat ((fail_if_success refine stp ?_); with_reducible go_step)
       refine region_F ?_; refine pl ?_; have cb4_0 := kb4.cell 0 rfl; have cb4_1 := kb4.cell 1 rfl; refine pl ?_; refine listF_step rfl (fun K' hK => ?_); unfold opF; go_simp; refine (rin_any k.steps[i].volt 0 1000 _).mono ?_; rintro e w' ⟨rfl, rfl⟩; refine ⟨_, rfl, hK _ _ ?_⟩; clear hK K'; refine pl ?_; refine pl ?_; refine listF_abs (fun s32 z' => ?_); replace sl1 := gs 1 z' sl1; replace sl3 := gs 3 z' sl3; replace sl4 := gs 4 z' sl4; have sl51 := gu 51 z'; clear z'
       refine boolG sl51 (fun sl51' h51 => ?_) (fun sl51' h51 => ?_) <;> (clear sl51; have sl51 := sl51'; clear sl51')
       ·skip
        have e7 := stp_7 hlt (.inl (by rw [← inb_iff]; simpa using h51)); have He := hid (kdErr_s Hh.out Hw.out Hl.out hlt hp.out (by rw [e7]; decide)); rw [e7] at He; clear e7
        refine pn true ?_
        refine pn true ?_; refine pn true ?_; refine pn true ?_; refine pl ?_; refine listF_abs (fun s33 z' => ?_); replace sl1 := gs 1 z' sl1; replace sl3 := gs 3 z' sl3; replace sl4 := gs 4 z' sl4; have sl56 := gu 56 z'; clear z' sl51; refine listF_nil ?_
        repeat ((fail_if_success refine stp ?_); with_reducible go_step)
        refine cond_t ?_
        repeat ((fail_if_success refine stp ?_); with_reducible go_step)
        refine region_F ?_; refine pl ?_; refine listF_abs (fun s34 z' => ?_); have sl2 := gu 2 z'; clear z' sl1 sl3 sl4 sl56; refine listF_nil ?_
        repeat ((fail_if_success refine stp ?_); with_reducible go_step)
        refine ret_F _ (res_t Try.results21 ((getD_F (by decide)).trans sl2)) ?_; exact ⟨ret_int He.out.symm, HB.out.toBelow⟩
       ·skip
        have e5 : inb k.steps[i].volt 0 1000 = true := by simpa using h51
        refine py ?_; refine py ?_; refine listF_yes rfl rfl (by decide) ?_ (fun K' hK => ?_); (focus (go_simp; done)); unfold opF; go_simp; refine (rin_any k.steps[i].need 0 1000000 _).mono ?_; rintro e w' ⟨rfl, rfl⟩; refine ⟨_, rfl, hK _ _ ?_⟩; clear hK K'; refine py ?_; refine pl ?_; refine listF_abs (fun s36 z' => ?_); replace sl1 := gs 1 z' sl1; replace sl3 := gs 3 z' sl3; replace sl4 := gs 4 z' sl4; have sl52 := gu 52 z'; have sl53 := gu 53 z'; have sl54 := gu 54 z'; have sl55 := gu 55 z'; have sl56 := gu 56 z'; clear z' sl51; refine listF_nil ?_
        repeat ((fail_if_success refine stp ?_); with_reducible go_step)
        refine cond_E sl56 (by decide) ?_ ?_ <;> (clear sl56; intro h56 sl56)
        ·skip
         have e7 := stp_7 hlt (.inr (by rw [← inb_iff]; simpa using h56)); have He := hid (kdErr_s Hh.out Hw.out Hl.out hlt hp.out (by rw [e7]; decide)); rw [e7] at He; clear e7
         repeat ((fail_if_success refine stp ?_); with_reducible go_step)
         refine region_F ?_; refine pl ?_; refine listF_abs (fun s37 z' => ?_); have sl2 := gu 2 z'; clear z' sl1 sl3 sl4 sl52 sl53 sl54 sl55 sl56; refine listF_nil ?_
         repeat ((fail_if_success refine stp ?_); with_reducible go_step)
         refine ret_F _ (res_t Try.results21 ((getD_F (by decide)).trans sl2)) ?_; exact ⟨ret_int He.out.symm, HB.out.toBelow⟩
        ·skip
         have e6 : inb k.steps[i].need 0 1000000 = true := by simpa using h56
         have Hin := hid (show stpIn k i from ⟨hlt, (inb_iff _ _ _).1 e5, (inb_iff _ _ _).1 e6⟩); clear e5 e6 h51 h56
         repeat ((fail_if_success refine stp ?_); with_reducible go_step)
         obtain rfl | ⟨m, rfl⟩ : i = 0 ∨ ∃ m, i = m + 1 := by rcases Nat.eq_zero_or_pos i with h | h; exact .inl h; exact .inr ⟨i - 1, by omega⟩
         ·skip
          rcases bne_or k.steps[0].volt 1000 with t1 | t1
          ·skip
           have Hz := hid (show stpErr k.steps 0 = 2 by rw [stp_z Hin.out]; exact if_pos (by simpa using t1)); have He := hid (kdErr_s Hh.out Hw.out Hl.out hlt hp.out (by rw [Hz.out]; decide)); rw [Hz.out] at He; have cb1_0 := kb1.cell 0 rfl; have cb1_1 := kb1.cell 1 rfl; have cb1_2 := kb1.cell 2 rfl; have cb1_3 := kb1.cell 3 rfl; refine regionQ_F (Below w28.heap.size w28) (by kernel_rfl) (by kernel_rfl) (Below.refl _ _).drew ?_
           iterate 3 refine lq ?_
           iterate 3 refine lqy ?_
           refine lq ?_; refine lq ?_
           refine lqn true ?_; refine lqn true ?_; refine lqn true ?_
           iterate 22 refine lqu ?_
           refine lqn true ?_; refine lq ?_; refine listQ_nil ?_; intro w38 hb39; clear cb1_0 cb1_1 cb1_2 cb1_3 cb4_0 cb4_1; clear qb1 qb4; replace kb1 := kb1.at hb39; replace kb4 := kb4.at hb39; replace HL24 := hid (HL24.out.below hb39); replace HB := hid (HB.out.below hb39); clear hb39; have qb1 := kb1.1; have qb4 := kb4.1
           repeat ((fail_if_success refine stp ?_); with_reducible go_step)
           refine wp_abs (fun s40 z' => ?_); replace sl1 := gs 1 z' sl1; replace sl3 := gs 3 z' sl3; replace sl52 := gs 52 z' sl52; replace sl53 := gs 53 z' sl53; replace sl54 := gs 54 z' sl54; replace sl55 := gs 55 z' sl55; have sl60 := gu 60 z'; have sl61 := gu 61 z'; have sl62 := gu 62 z'; have sl91 := gu 91 z'; clear z' sl4 sl56; refine cond_t ?_
           repeat ((fail_if_success refine stp ?_); with_reducible go_step)
           refine region_F ?_; refine pl ?_; refine listF_abs (fun s41 z' => ?_); have sl2 := gu 2 z'; clear z' sl1 sl3 sl52 sl53 sl54 sl55 sl60 sl61 sl62 sl91; refine listF_nil ?_
           repeat ((fail_if_success refine stp ?_); with_reducible go_step)
           refine ret_F _ (res_t Try.results21 ((getD_F (by decide)).trans sl2)) ?_; exact ⟨ret_int He.out.symm, HB.out.toBelow⟩
          ·skip
           have Hz := hid (show stpErr k.steps 0 = 0 by rw [stp_z Hin.out]; exact if_neg (by simpa using t1)); have cb1_0 := kb1.cell 0 rfl; have cb1_1 := kb1.cell 1 rfl; have cb1_2 := kb1.cell 2 rfl; have cb1_3 := kb1.cell 3 rfl; refine regionQ_F (Below w28.heap.size w28) (by kernel_rfl) (by kernel_rfl) (Below.refl _ _).drew ?_
           iterate 3 refine lq ?_
           iterate 3 refine lqy ?_
           refine lq ?_; refine lq ?_
           iterate 3 refine lqy ?_
           refine lqn false ?_
           refine lqn false ?_
           refine lqn false ?_
           refine lqn false ?_
           refine lqn false ?_
           refine lqn false ?_
           refine lqn false ?_
           refine lqn false ?_
           refine lqn false ?_; refine lqn false ?_; refine lqn false ?_
           iterate 10 refine lqu ?_
           refine lqn false ?_; refine lqy ?_; refine lq ?_; refine listQ_nil ?_; intro w42 hb43; clear cb1_0 cb1_1 cb1_2 cb1_3 cb4_0 cb4_1; clear qb1 qb4; replace kb1 := kb1.at hb43; replace kb4 := kb4.at hb43; replace HL24 := hid (HL24.out.below hb43); replace HB := hid (HB.out.below hb43); clear hb43; have qb1 := kb1.1; have qb4 := kb4.1
           repeat ((fail_if_success refine stp ?_); with_reducible go_step)
           refine wp_abs (fun s44 z' => ?_); replace sl1 := gs 1 z' sl1; replace sl3 := gs 3 z' sl3; replace sl52 := gs 52 z' sl52; replace sl53 := gs 53 z' sl53; replace sl54 := gs 54 z' sl54; replace sl55 := gs 55 z' sl55; have sl60 := gu 60 z'; have sl61 := gu 61 z'; have sl62 := gu 62 z'; have sl65 := gu 65 z'; have sl66 := gu 66 z'; have sl67 := gu 67 z'; have sl90 := gu 90 z'; have sl91 := gu 91 z'; clear z' sl4 sl56; refine cond_f ?_
           repeat ((fail_if_success refine stp ?_); with_reducible go_step)
           refine region_F ?_
           iterate 3 refine pl ?_
           refine listF_abs (fun s45 z' => ?_); replace sl1 := gs 1 z' sl1; replace sl3 := gu 3 z'; replace sl52 := gs 52 z' sl52; replace sl53 := gs 53 z' sl53; replace sl54 := gs 54 z' sl54; replace sl55 := gs 55 z' sl55; replace sl60 := gs 60 z' sl60; replace sl61 := gs 61 z' sl61; replace sl62 := gs 62 z' sl62; replace sl65 := gs 65 z' sl65; replace sl66 := gs 66 z' sl66; replace sl67 := gs 67 z' sl67; replace sl90 := gs 90 z' sl90; clear z' sl91; refine listF_nil ?_
           repeat ((fail_if_success refine stp ?_); with_reducible go_step)
           refine ⟨_, _, rfl, ?_, 0 + 1, rfl, (by first | (with_reducible exact sl3) | (rw [sl3]; (with_reducible go_num); done) | (rw [sl3, IntWalk.i64_in] <;> first | ((with_reducible go_num); done) | omega) | (rw [sl3]; go_num; done) | (rw [sl3]; simp; done) | (rw [sl3]; simp; omega)), (sl1.trans hc0_1.out.symm), HL24.out, hid (fun j hj => by rcases Nat.lt_or_ge j 0 with h | h <;> first | exact hp.out j h | (have e : j = 0 := (by omega); rw [e]; exact Hz.out)), by omega⟩
           omega
         ·skip
          obtain ⟨_, c2, c3⟩ := RdSteps.get (Rd.oldB HR.out HB.out (by simp)) (show m < k.steps.length by omega)
          have wm : IntKind.i64.wrap (((m + 1 : Nat) : Int) - 1) = (m : Int) := by rw [IntWalk.i64_in _ (by omega)]; omega
          have wm2 : IntKind.i64.wrap ((m : Int) + 1) = (m : Int) + 1 := IntWalk.i64_in _ (by omega); have wm3 : IntKind.i64.wrap (m : Int) = (m : Int) := IntWalk.i64_in _ (by omega)
          have wm4 : (m : Int) < k.steps.length := by omega
          have wm5 : ¬ (m : Int) + 1 = 0 := by omega
          rcases dec_or (k.steps[m].volt ≤ k.steps[m + 1].volt) with t2 | t2
          ·skip
           have Hz := hid (show stpErr k.steps (m + 1) = 2 by rw [stp_p Hin.out]; exact if_pos (.inl (by simpa using t2))); have He := hid (kdErr_s Hh.out Hw.out Hl.out hlt hp.out (by rw [Hz.out]; decide)); rw [Hz.out] at He; have cb1_0 := kb1.cell 0 rfl; have cb1_1 := kb1.cell 1 rfl; have cb1_2 := kb1.cell 2 rfl; have cb1_3 := kb1.cell 3 rfl; refine regionQ_F (Below w28.heap.size w28) (by kernel_rfl) (by kernel_rfl) (Below.refl _ _).drew ?_
           iterate 3 refine lq ?_
           refine lqn false ?_; refine lqn false ?_; refine lqn false ?_; refine lq ?_; refine lq ?_
           iterate 14 refine lqy ?_
           refine lqn true ?_
           refine lqn true ?_
           refine lqn true ?_
           refine lqn true ?_
           refine lqn true ?_
           refine lqn true ?_
           refine lqn true ?_
           refine lqn true ?_; refine lqn true ?_; refine lqn true ?_; refine lqy ?_; refine lqy ?_; refine lq ?_; refine listQ_nil ?_; intro w46 hb47; clear cb1_0 cb1_1 cb1_2 cb1_3 cb4_0 cb4_1; clear qb1 qb4; replace kb1 := kb1.at hb47; replace kb4 := kb4.at hb47; replace HL24 := hid (HL24.out.below hb47); replace HB := hid (HB.out.below hb47); clear hb47; have qb1 := kb1.1; have qb4 := kb4.1
           repeat ((fail_if_success refine stp ?_); with_reducible go_step)
           refine wp_abs (fun s48 z' => ?_); replace sl1 := gs 1 z' sl1; replace sl3 := gs 3 z' sl3; replace sl52 := gs 52 z' sl52; replace sl53 := gs 53 z' sl53; replace sl54 := gs 54 z' sl54; replace sl55 := gs 55 z' sl55; have sl65 := gu 65 z'; have sl66 := gu 66 z'; have sl67 := gu 67 z'; have sl68 := gu 68 z'; have sl69 := gu 69 z'; have sl70 := gu 70 z'; have sl71 := gu 71 z'; have sl72 := gu 72 z'; have sl73 := gu 73 z'; have sl74 := gu 74 z'; have sl75 := gu 75 z'; have sl76 := gu 76 z'; have sl77 := gu 77 z'; have sl78 := gu 78 z'; have sl89 := gu 89 z'; have sl90 := gu 90 z'; have sl91 := gu 91 z'; clear z' sl4 sl56; refine cond_t ?_
           repeat ((fail_if_success refine stp ?_); with_reducible go_step)
           refine region_F ?_; refine pl ?_; refine listF_abs (fun s49 z' => ?_); have sl2 := gu 2 z'; clear z' sl1 sl3 sl52 sl53 sl54 sl55 sl65 sl66 sl67 sl68 sl69 sl70 sl71 sl72 sl73 sl74 sl75 sl76 sl77 sl78 sl89 sl90 sl91; refine listF_nil ?_
           repeat ((fail_if_success refine stp ?_); with_reducible go_step)
           refine ret_F _ (res_t Try.results21 ((getD_F (by decide)).trans sl2)) ?_; exact ⟨ret_int He.out.symm, HB.out.toBelow⟩
          ·skip
           have cb1_0 := kb1.cell 0 rfl; have cb1_1 := kb1.cell 1 rfl; have cb1_2 := kb1.cell 2 rfl; have cb1_3 := kb1.cell 3 rfl; refine regionQ_F (Below w28.heap.size w28) (by kernel_rfl) (by kernel_rfl) (Below.refl _ _).drew ?_
           iterate 3 refine lq ?_
           refine lqn false ?_; refine lqn false ?_; refine lqn false ?_; refine lq ?_; refine lq ?_
           iterate 26 refine lqy ?_
           refine lq ?_; refine listQ_nil ?_; intro w50 hb51; clear cb1_0 cb1_1 cb1_2 cb1_3 cb4_0 cb4_1; clear qb1 qb4; replace kb1 := kb1.at hb51; replace kb4 := kb4.at hb51; replace HL24 := hid (HL24.out.below hb51); replace HB := hid (HB.out.below hb51); clear hb51; have qb1 := kb1.1; have qb4 := kb4.1
           repeat ((fail_if_success refine stp ?_); with_reducible go_step)
           refine wp_abs (fun s52 z' => ?_); replace sl1 := gs 1 z' sl1; replace sl3 := gs 3 z' sl3; replace sl52 := gs 52 z' sl52; replace sl53 := gs 53 z' sl53; replace sl54 := gs 54 z' sl54; replace sl55 := gs 55 z' sl55; have sl65 := gu 65 z'; have sl66 := gu 66 z'; have sl67 := gu 67 z'; have sl68 := gu 68 z'; have sl69 := gu 69 z'; have sl70 := gu 70 z'; have sl71 := gu 71 z'; have sl72 := gu 72 z'; have sl73 := gu 73 z'; have sl74 := gu 74 z'; have sl75 := gu 75 z'; have sl76 := gu 76 z'; have sl77 := gu 77 z'; have sl78 := gu 78 z'; have sl79 := gu 79 z'; have sl80 := gu 80 z'; have sl81 := gu 81 z'; have sl82 := gu 82 z'; have sl83 := gu 83 z'; have sl84 := gu 84 z'; have sl85 := gu 85 z'; have sl86 := gu 86 z'; have sl87 := gu 87 z'; have sl88 := gu 88 z'; have sl89 := gu 89 z'; have sl90 := gu 90 z'; have sl91 := gu 91 z'; clear z' sl4 sl56
           refine cond_E sl91 (by decide) ?_ ?_ <;> (clear sl91; intro h91 sl91)
           ·skip
            have h91' : k.steps[m + 1].need < k.steps[m].need := by simpa using h91
            have Hz := hid (show stpErr k.steps (m + 1) = 2 by rw [stp_p Hin.out]; exact if_pos (.inr h91')); have He := hid (kdErr_s Hh.out Hw.out Hl.out hlt hp.out (by rw [Hz.out]; decide)); rw [Hz.out] at He
            repeat ((fail_if_success refine stp ?_); with_reducible go_step)
            refine region_F ?_; refine pl ?_; refine listF_abs (fun s53 z' => ?_); have sl2 := gu 2 z'; clear z' sl1 sl3 sl52 sl53 sl54 sl55 sl65 sl66 sl67 sl68 sl69 sl70 sl71 sl72 sl73 sl74 sl75 sl76 sl77 sl78 sl79 sl80 sl81 sl82 sl83 sl84 sl85 sl86 sl87 sl88 sl89 sl90 sl91; refine listF_nil ?_
            repeat ((fail_if_success refine stp ?_); with_reducible go_step)
            refine ret_F _ (res_t Try.results21 ((getD_F (by decide)).trans sl2)) ?_; exact ⟨ret_int He.out.symm, HB.out.toBelow⟩
           ·skip
            have h91' : ¬ k.steps[m + 1].need < k.steps[m].need := by simpa using h91
            have t2' : ¬ k.steps[m].volt ≤ k.steps[m + 1].volt := by simpa using t2
            have Hz := hid (show stpErr k.steps (m + 1) = 0 by rw [stp_p Hin.out]; exact if_neg (by intro h; rcases h with h | h <;> first | exact t2' h | exact h91' h))
            repeat ((fail_if_success refine stp ?_); with_reducible go_step)
            refine region_F ?_
            iterate 3 refine pl ?_
            refine listF_abs (fun s54 z' => ?_); replace sl1 := gs 1 z' sl1; replace sl3 := gu 3 z'; replace sl52 := gs 52 z' sl52; replace sl53 := gs 53 z' sl53; replace sl54 := gs 54 z' sl54; replace sl55 := gs 55 z' sl55; replace sl65 := gs 65 z' sl65; replace sl66 := gs 66 z' sl66; replace sl67 := gs 67 z' sl67; replace sl68 := gs 68 z' sl68; replace sl69 := gs 69 z' sl69; replace sl70 := gs 70 z' sl70; replace sl71 := gs 71 z' sl71; replace sl72 := gs 72 z' sl72; replace sl73 := gs 73 z' sl73; replace sl74 := gs 74 z' sl74; replace sl75 := gs 75 z' sl75; replace sl76 := gs 76 z' sl76; replace sl77 := gs 77 z' sl77; replace sl78 := gs 78 z' sl78; replace sl79 := gs 79 z' sl79; replace sl80 := gs 80 z' sl80; replace sl81 := gs 81 z' sl81; replace sl82 := gs 82 z' sl82; replace sl83 := gs 83 z' sl83; replace sl84 := gs 84 z' sl84; replace sl85 := gs 85 z' sl85; replace sl86 := gs 86 z' sl86; replace sl87 := gs 87 z' sl87; replace sl88 := gs 88 z' sl88
            replace sl89 := gs 89 z' sl89; replace sl90 := gs 90 z' sl90; clear z' sl91; refine listF_nil ?_
            repeat ((fail_if_success refine stp ?_); with_reducible go_step)
            refine ⟨_, _, rfl, ?_, m + 1 + 1, rfl, (by first | (with_reducible exact sl3) | (rw [sl3]; (with_reducible go_num); done) | (rw [sl3, IntWalk.i64_in] <;> first | ((with_reducible go_num); done) | omega) | (rw [sl3]; go_num; done) | (rw [sl3]; simp; done) | (rw [sl3]; simp; omega)), (sl1.trans hc0_1.out.symm), HL24.out, hid (fun j hj => by rcases Nat.lt_or_ge j (m + 1) with h | h <;> first | exact hp.out j h | (have e : j = (m + 1) := (by omega); rw [e]; exact Hz.out)), by omega⟩
            omega
      ·skip
       have hge : k.steps.length ≤ i := by simpa using h39
       have He := hid (kdErr_0 Hh.out Hw.out Hl.out (fun j hj => hp.out j (by omega)))
       repeat ((fail_if_success refine stp ?_); with_reducible go_step)
       clear HL24; clear hc0_1; refine region_F ?_; refine pl ?_; refine listF_abs (fun s55 z' => ?_); have sl2 := gu 2 z'; clear z' sl1 sl3 sl39; refine listF_nil ?_
       repeat ((fail_if_success refine stp ?_); with_reducible go_step)
       refine ret_F _ (res_t Try.results21 ((getD_F (by decide)).trans sl2)) ?_; exact ⟨ret_int He.out.symm, HB.out.toBelow⟩

set_option maxRecDepth 100000 in
set_option maxHeartbeats 1000000 in
theorem rneeded_any (k : Kd) (a : Option Addr) (c : Nat) (v : Int) (w : World) (hR : RdSteps w a k.steps) (hK : KOk k) (hv : voltOk k v = true) :
    Calls Try.prog 43 #[.agg #[.int .i64 k.new, .int .i64 k.wear.lo, .int .i64 k.wear.hi, .slice a k.steps.length c], .int .i64 v] w (fun e w' => e = .returned (.int .i64 (needed k v)) ∧ Below w.heap.size w w') := by
 obtain ⟨n, hn, hv1, hv2, hv3⟩ := needed_ex hK hv; have hsl := hK.l1; have Hv1 := hid hv1; have Hv2 := hid hv2; have Hv3 := hid hv3; have HR := hid hR; clear hR hK hv hv1 hv2 hv3
 refine enter_F Try.func43 rfl Try.ntmps43 (by simp) ?_
 intro s0 hs; have sl0 : s0 0 = .agg #[.int .i64 k.new, .int .i64 k.wear.lo, .int .i64 k.wear.hi, .slice a k.steps.length c] := hs 0 (by simp); have sl1 : s0 1 = .int .i64 v := hs 1 (by simp); clear hs; have HB := hid (OldB.refl [] w)
 repeat ((fail_if_success refine stp ?_); with_reducible go_step)
 refine region_F ?_; refine pa (fun w1 B2 hB kb2' hb2 => ?_); have gb2 := HB.out.gB hB; have eb2 := eB hB; clear hB; replace HB := hid (HB.out.below hb2); clear hb2; have kb2 := kb2'; clear kb2'; have qb2 := kb2.1; refine pl ?_; refine listF_abs (fun s3 z' => ?_); replace sl1 := gs 1 z' sl1; have sl2 := gu 2 z'; clear z' sl0; refine listF_nil ?_
 repeat ((fail_if_success refine stp ?_); with_reducible go_step)
 refine region_F ?_; refine pl ?_; refine listF_abs (fun s4 z' => ?_); replace sl1 := gs 1 z' sl1; replace sl2 := gs 2 z' sl2; have sl5 := gu 5 z'; clear z'; refine listF_nil ?_
 repeat ((fail_if_success refine stp ?_); with_reducible go_step)
 have hc0_1 := hid sl1; have hc0_2 := hid sl2; refine loop_F (n := 22) (fun kJ sJ wJ => ∃ (i : Nat), kJ = n - i ∧ sJ 5 = .int .i64 (i : Int) ∧ sJ 1 = s4 1 ∧ sJ 2 = s4 2 ∧ OldB [] w1 wJ ∧ i ≤ n) ⟨0, rfl, (by first | exact sl5 | (rw [sl5]; go_num) | (rw [sl5]; rfl)), rfl, rfl, OldB.refl _ _, Nat.zero_le _⟩ ?_; clear sl5; rintro kJ s5 w6 ⟨i, rfl, sl5, e1, e2, hb7, hin⟩; replace sl1 := e1.trans sl1; clear e1; replace sl2 := e2.trans sl2; clear e2; have hoJ := hb7; clear qb2; replace kb2 := kb2.oldB hb7 (by first | (simp; done) | (simp; omega)); replace HB := hid (HB.out.more hb7 (by simp; try omega)); clear hb7; have qb2 := kb2.1; have HoJ := hid hoJ; clear hoJ
 have hlt : i < k.steps.length := by omega
 obtain ⟨b, off, rfl, hbs, c0, c1⟩ := RdSteps.ne (Rd.oldB HR.out HB.out (by simp)) hlt; have HL8 := HoJ; clear HoJ
 repeat ((fail_if_success refine stp ?_); with_reducible go_step)
 refine region_F ?_; refine pl ?_; have cb2_0 := kb2.cell 0 rfl; have cb2_1 := kb2.cell 1 rfl; have cb2_2 := kb2.cell 2 rfl; have cb2_3 := kb2.cell 3 rfl
 iterate 7 refine pl ?_
 refine listF_abs (fun s9 z' => ?_); replace sl1 := gs 1 z' sl1; replace sl2 := gs 2 z' sl2; replace sl5 := gs 5 z' sl5; have sl13 := gu 13 z'; clear z'; refine listF_nil ?_
 repeat ((fail_if_success refine stp ?_); with_reducible go_step)
 refine cond_E sl13 (by decide) ?_ ?_ <;> (clear sl13; intro h13 sl13)
 ·skip
  have h13' : v < k.steps[i].volt := by simpa using h13
  have hne : i ≠ n := by intro e; subst e; have := Hv1.out; omega
  repeat ((fail_if_success refine stp ?_); with_reducible go_step)
  refine region_F ?_
  iterate 3 refine pl ?_
  refine listF_abs (fun s10 z' => ?_); replace sl1 := gs 1 z' sl1; replace sl2 := gs 2 z' sl2; replace sl5 := gu 5 z'; clear z' sl13; refine listF_nil ?_
  repeat ((fail_if_success refine stp ?_); with_reducible go_step)
  clear cb2_0 cb2_1 cb2_2 cb2_3; refine ⟨_, _, rfl, ?_, i + 1, rfl, (by first | (with_reducible exact sl5) | (rw [sl5]; (with_reducible go_num); done) | (rw [sl5, IntWalk.i64_in] <;> first | ((with_reducible go_num); done) | omega) | (rw [sl5]; go_num; done) | (rw [sl5]; simp; done) | (rw [sl5]; simp; omega)), (sl1.trans hc0_1.out.symm), (sl2.trans hc0_2.out.symm), HL8.out, by omega⟩
  omega
 ·skip
  have h13' : ¬ v < k.steps[i].volt := by simpa using h13
  have hie : i = n := by rcases Nat.lt_or_ge i n with h | h; exact absurd (Hv2.out i h) h13'; omega
  subst hie
  repeat ((fail_if_success refine stp ?_); with_reducible go_step)
  clear HL8; clear hc0_1 hc0_2; refine region_F ?_
  iterate 7 refine pl ?_
  refine listF_abs (fun s11 z' => ?_); have sl4 := gu 4 z'; clear z' sl1 sl2 sl5 sl13; refine listF_nil ?_
  repeat ((fail_if_success refine stp ?_); with_reducible go_step)
  refine ret_F _ (res_t Try.results43 ((getD_F (by decide)).trans sl4)) ?_; exact ⟨ret_int Hv3.out.symm, HB.out.toBelow⟩
end


end Go.Proofs.Ytndcmmghgljinaa
