/- The laws' span, Kind, Checks. -/
import Derived.Test.YtndcmmghgljinaaW18
import Derived.Test.YtndcmmghgljinaaW14
set_option linter.all false
namespace Go.Proofs.Ytndcmmghgljinaa
open Go.RowKit

theorem load_t26 {w : World} {b o : Nat} {x0 x1 x2 x3 : Value} (h0 : w.cell? ⟨b, o, none⟩ = some x0) (h1 : w.cell? ⟨b, o + 1, none⟩ = some x1) (h2 : w.cell? ⟨b, o + 2, none⟩ = some x2) (h3 : w.cell? ⟨b, o + 3, none⟩ = some x3) :
    (loadVar 26 ⟨b, o, none⟩).run Try.prog w = .ok (.agg #[x0, x1, x2, x3]) w := by
  simp [go_sem, h0, h1, h2, h3]


abbrev KND : Kd := ⟨1000, ⟨1, 3⟩, [⟨1000, 300⟩, ⟨900, 500⟩, ⟨800, 700⟩]⟩
abbrev CHS : List MCk := [⟨100, 800, true⟩, ⟨200, 800, false⟩, ⟨200, 900, true⟩]

set_option maxRecDepth 100000 in
set_option maxHeartbeats 1000000 in
theorem lspan_any (x y : Int) (w : World) :
    Calls Try.prog 40 #[.int .i64 x, .int .i64 y] w (fun e w' => e = .returned (.agg #[.int .i64 x, .int .i64 y]) ∧ Below w.heap.size w w') := by
 refine enter_F Try.func40 rfl Try.ntmps40 (by simp) ?_
 intro s0 hs; have sl0 : s0 0 = .int .i64 x := hs 0 (by simp); have sl1 : s0 1 = .int .i64 y := hs 1 (by simp); clear hs; have HB := hid (OldB.refl [] w)
 repeat ((fail_if_success refine stp ?_); with_reducible go_step)
 refine region_F ?_; refine pa (fun w1 B4 hB kb4' hb2 => ?_); have gb4 := HB.out.gB hB; have eb4 := eB hB; clear hB; replace HB := hid (HB.out.below hb2); clear hb2; have kb4 := kb4'; clear kb4'; have qb4 := kb4.1; refine listF_abs (fun s3 z' => ?_); replace sl0 := gs 0 z' sl0; replace sl1 := gs 1 z' sl1; have sl4 := gu 4 z'; clear z'; refine listF_nil ?_
 repeat ((fail_if_success refine stp ?_); with_reducible go_step)
 refine region_F ?_
 iterate 3 refine pl ?_
 have cb4_0 := kb4.cell 0 rfl; have cb4_1 := kb4.cell 1 rfl; have zb4 := kb4.2.2; refine pl ?_; refine listF_absw (fun w4 hw' => ?_); have kb4' := cells_of hw' (Cells.set (i := 1) (Cells.set (i := 0) (kb4)))
 (try simp only [vC, List.set_cons_zero, List.set_cons_succ] at kb4')
 have hb5 : OldB [B4] w1 w4 := oldset hw'; clear hw'; clear cb4_0 cb4_1 zb4; clear qb4; replace kb4 := kb4'; replace HB := hid (HB.out.more hb5 (by simp; try omega)); clear hb5; have qb4 := kb4.1; clear kb4'; refine listF_abs (fun s6 z' => ?_); replace sl4 := gs 4 z' sl4; clear z' sl0 sl1; refine listF_nil ?_
 repeat ((fail_if_success refine stp ?_); with_reducible go_step)
 have cb4_0 := kb4.cell 0 rfl; have cb4_1 := kb4.cell 1 rfl; refine ret_F _ (res_c Try.results40 ((getD_F (by decide)).trans sl4) (load_t23 cb4_0 cb4_1)) ?_; exact ⟨rfl, HB.out.toBelow⟩

set_option maxRecDepth 100000 in
set_option maxHeartbeats 1000000 in
theorem kind_any (w : World) :
    Calls Try.prog 38 #[] w (fun e w' => ∃ b, e = .returned (.agg #[.int .i64 1000, .int .i64 1, .int .i64 3, .slice (some ⟨b, 0, none⟩) 3 3]) ∧ RdSteps w' (some ⟨b, 0, none⟩) KND.steps ∧ w.heap.size ≤ b ∧ Below w.heap.size w w') := by
 refine enter_F Try.func38 rfl Try.ntmps38 (by simp) ?_
 intro s0 hs; clear hs; have HB := hid (OldB.refl [] w)
 repeat ((fail_if_success refine stp ?_); with_reducible go_step)
 refine region_F ?_; refine pa (fun w1 B0 hB kb0' hb2 => ?_); have gb0 := HB.out.gB hB; have eb0 := eB hB; clear hB; replace HB := hid (HB.out.below hb2); clear hb2; have kb0 := kb0'; clear kb0'; have qb0 := kb0.1; refine listF_abs (fun s3 z' => ?_); have sl0 := gu 0 z'; clear z'; refine listF_nil ?_
 repeat ((fail_if_success refine stp ?_); with_reducible go_step)
 refine region_F ?_; refine listF_step rfl (fun K' hK => ?_); unfold opF; go_simp; refine (lspan_any 1 3 _).mono ?_; rintro e w4 ⟨rfl, hb5⟩; refine ⟨_, rfl, hK _ _ ?_⟩; clear hK K'; clear qb0; replace kb0 := kb0.at hb5; replace HB := hid (HB.out.below hb5); clear hb5; have qb0 := kb0.1
 iterate 3 refine pl ?_
 refine pas (fun w6 B5 hB kb5' hb7 => ?_); have gb5 := HB.out.gB hB; have ob0_b5 := oB qb0 hB; have eb5 := eB hB; clear hB; clear qb0; replace kb0 := kb0.at hb7; replace HB := hid (HB.out.below hb7); clear hb7; have qb0 := kb0.1; have kb5 := kb5'; clear kb5'; have qb5 := kb5.1; refine pl ?_; have cb0_0 := kb0.cell 0 rfl; have cb0_1 := kb0.cell 1 rfl; have cb0_2 := kb0.cell 2 rfl; have cb0_3 := kb0.cell 3 rfl; have zb0 := kb0.2.2; refine pl ?_; refine listF_absw (fun w8 hw' => ?_); have kb0' := cells_of hw' (Cells.set (i := 3) (Cells.set (i := 2) (Cells.set (i := 1) (Cells.set (i := 0) (kb0)))))
 (try simp only [vC, List.set_cons_zero, List.set_cons_succ] at kb0')
 have hb9 : OldB [B0] w6 w8 := oldset hw'; clear hw'; clear cb0_0 cb0_1 cb0_2 cb0_3 zb0; clear qb0 qb5; replace kb0 := kb0'; replace kb5 := kb5.oldB hb9 (by first | (simp; done) | (simp; omega)); replace HB := hid (HB.out.more hb9 (by simp; try omega)); clear hb9; have qb0 := kb0.1; have qb5 := kb5.1; clear kb0'; refine listF_abs (fun s10 z' => ?_); replace sl0 := gs 0 z' sl0; clear z'; refine listF_nil ?_
 repeat ((fail_if_success refine stp ?_); with_reducible go_step)
 have cb0_0 := kb0.cell 0 rfl; have cb0_1 := kb0.cell 1 rfl; have cb0_2 := kb0.cell 2 rfl; have cb0_3 := kb0.cell 3 rfl; refine ret_F _ (res_c Try.results38 ((getD_F (by decide)).trans sl0) (load_t26 cb0_0 cb0_1 cb0_2 cb0_3)) ?_; exact ⟨B5, rfl, Cells.rd (f := Stp.cs) (m := 2) (l := KND.steps) (fun _ => rfl) kb5, gb5, HB.out.toBelow⟩

set_option maxRecDepth 100000 in
set_option maxHeartbeats 1000000 in
theorem checks_any (w : World) :
    Calls Try.prog 39 #[] w (fun e w' => ∃ b, e = .returned (.slice (some ⟨b, 0, none⟩) 3 3) ∧ RdCks w' (some ⟨b, 0, none⟩) CHS ∧ w.heap.size ≤ b ∧ Below w.heap.size w w') := by
 refine enter_F Try.func39 rfl Try.ntmps39 (by simp) ?_
 intro s0 hs; clear hs; have HB := hid (OldB.refl [] w)
 repeat ((fail_if_success refine stp ?_); with_reducible go_step)
 refine region_F ?_; refine pl ?_; refine listF_abs (fun s1 z' => ?_); clear z'; refine listF_nil ?_
 repeat ((fail_if_success refine stp ?_); with_reducible go_step)
 refine region_F ?_
 iterate 3 refine pl ?_
 refine pas (fun w2 B4 hB kb4' hb3 => ?_); have gb4 := HB.out.gB hB; have eb4 := eB hB; clear hB; replace HB := hid (HB.out.below hb3); clear hb3; have kb4 := kb4'; clear kb4'; have qb4 := kb4.1; refine pl ?_; refine listF_abs (fun s4 z' => ?_); have sl0 := gu 0 z'; clear z'; refine listF_nil ?_
 repeat ((fail_if_success refine stp ?_); with_reducible go_step)
 refine ret_F _ (res_t Try.results39 ((getD_F (by decide)).trans sl0)) ?_; exact ⟨B4, rfl, Cells.rd (f := MCk.cs) (m := 3) (l := CHS) (fun _ => rfl) kb4, gb4, HB.out.toBelow⟩

end Go.Proofs.Ytndcmmghgljinaa
