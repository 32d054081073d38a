/- Awake. -/
import Derived.Test.YtndcmmghgljinaardW31
import Derived.Test.YtndcmmghgljinaardW40
import Derived.Test.YtndcmmghgljinaardW32
import Derived.Test.YtndcmmghgljinaardW20
import Derived.Test.YtndcmmghgljinaardW16
set_option linter.all false
namespace Go.Proofs.Ytndcmmghgljinaa

section
open Go.RowKit


theorem aw_need : (needRes KND 950).1 = 500 ∧ (needRes KND 950).2 = 0 := by decide +kernel
theorem aw_need2 : (needRes KND 799).1 = 0 ∧ (needRes KND 799).2 = 7 := by decide +kernel
theorem aw_now : (asked KND CHS 250).1.lo = 350 ∧ (asked KND CHS 250).1.hi = 649 ∧ (asked KND CHS 250).2 = 0 := by decide +kernel
theorem aw_fails : (failsRes KND CHS 250).1.earliest = 267 ∧ (failsRes KND CHS 250).1.latest = 600 ∧ (failsRes KND CHS 250).2 = 0 := by decide +kernel
theorem aw_life : (lifeRes KND 2).1.earliest = 134 ∧ (lifeRes KND 2).1.latest = 701 ∧ (lifeRes KND 2).2 = 0 := by decide +kernel
theorem aw_next : (nextRes KND CHS 250).1 = 900 ∧ (nextRes KND CHS 250).2.1 = 149 ∧ (nextRes KND CHS 250).2.2 = 0 := by decide +kernel
theorem aw_group : grpRes KND [⟨350, 649⟩, ⟨600, 900⟩] 900 false = ([⟨350, 499⟩, ⟨600, 900⟩], [0], 0) := by decide +kernel
abbrev VLK (b : Nat) : Vl := ⟨KND, some ⟨b, 0, none⟩, 3, none, 0, []⟩
theorem aw_rep (b : Nat) : repRes [VLK b] [100, 200, 300, 400, 500] 0 600 = ([[], [0], [], [0], []], 0) := by kernel_rfl
theorem RdPlan.at {w w' : World} {a : Option Addr} {xs : List Sl} (h : RdPlan w a xs) (hb : Below w.heap.size w w') : RdPlan w' a xs := ⟨Rd.at h.1 hb, fun x hx => Rd.at (h.2 x hx) hb⟩
theorem RdPlan.oldB {w w' : World} {a : Option Addr} {xs : List Sl} (h : RdPlan w a xs) (ho : OldB [] w w') : RdPlan w' a xs := ⟨Rd.oldB h.1 ho (by simp), fun x hx => Rd.oldB (h.2 x hx) ho (by simp)⟩
theorem exSpans_c {w0 w : World} {a : Option Addr} {c X : Nat} (h : RdSpans w0 a [⟨350, 499⟩, ⟨600, 900⟩]) (ho : OldB [] w0.drew w) (k : Cells w X [.int .i64 350, .int .i64 499, .int .i64 600, .int .i64 900]) : Calls Try.prog 33 #[.slice a 2 c, .slice (some ⟨X, 0, none⟩) 2 2] w fun e w' => e = .returned (.bool true) ∧ Below w.heap.size w w' :=
  (rspans_any a c [⟨350, 499⟩, ⟨600, 900⟩] (some ⟨X, 0, none⟩) 2 [⟨350, 499⟩, ⟨600, 900⟩] w (Rd.oldB h ho.unDrew (by simp)) (Cells.rd (f := Span.cs) (m := 2) (l := [⟨350, 499⟩, ⟨600, 900⟩]) (fun _ => rfl) k) (by decide) (by decide)).mono fun e w' hh => ⟨by rw [hh.1]; rfl, hh.2⟩
theorem exInts_c {w0 w : World} {a : Option Addr} {c X : Nat} (h : RdInts w0 a [0]) (ho : OldB [] w0.drew w) (k : Cells w X [.int .i64 0]) : Calls Try.prog 34 #[.slice a 1 c, .slice (some ⟨X, 0, none⟩) 1 1] w fun e w' => e = .returned (.bool true) ∧ Below w.heap.size w w' :=
  (rints_any a c [0] (some ⟨X, 0, none⟩) 1 [0] w (Rd.oldB h ho.unDrew (by simp)) (Cells.rd (f := int1) (m := 1) (l := [0]) (fun _ => rfl) k) (by decide) (by decide)).mono fun e w' hh => ⟨by rw [hh.1]; rfl, hh.2⟩
theorem exPlans_c {w0 w : World} {a : Option Addr} {c X Y Z : Nat} {xs : List Sl} (h : RdPlan w0 a xs) (hx : xs.map Sl.l = [[], [0], [], [0], []]) (ho : OldB [] w0.drew w) (k : Cells w X [.slice none 0 0, .slice (some ⟨Y, 0, none⟩) 1 1, .slice none 0 0, .slice (some ⟨Z, 0, none⟩) 1 1, .slice none 0 0]) (ky : Cells w Y [.int .i64 0]) (kz : Cells w Z [.int .i64 0]) :
    Calls Try.prog 37 #[.slice a 5 c, .slice (some ⟨X, 0, none⟩) 5 5] w fun e w' => e = .returned (.bool true) ∧ Below w.heap.size w w' := by
  have hl : xs.length = 5 := by have := congrArg List.length hx; simpa using this
  have hm : ∀ x ∈ xs, x.l.length ≤ 9223372036854775807 := fun x hm => by
    have : x.l ∈ xs.map Sl.l := List.mem_map.2 ⟨x, hm, rfl⟩; rw [hx] at this
    simp only [List.mem_cons, List.not_mem_nil, or_false] at this
    rcases this with h | h | h | h | h <;> rw [h] <;> decide
  have hp : RdPlan w a xs := ⟨Rd.oldB h.1 ho.unDrew (by simp), fun x hx => Rd.oldB (h.2 x hx) ho.unDrew (by simp)⟩
  have hq : RdPlan w (some ⟨X, 0, none⟩) [⟨none, 0, []⟩, ⟨some ⟨Y, 0, none⟩, 1, [0]⟩, ⟨none, 0, []⟩, ⟨some ⟨Z, 0, none⟩, 1, [0]⟩, ⟨none, 0, []⟩] := by
    refine ⟨Cells.rd (f := Sl.cs) (m := 1) (l := [⟨none, 0, []⟩, ⟨some ⟨Y, 0, none⟩, 1, [0]⟩, ⟨none, 0, []⟩, ⟨some ⟨Z, 0, none⟩, 1, [0]⟩, ⟨none, 0, []⟩]) (fun _ => rfl) k, fun x hx => ?_⟩
    simp only [List.mem_cons, List.not_mem_nil, or_false] at hx
    rcases hx with rfl | rfl | rfl | rfl | rfl
    · exact .inl rfl
    · exact Cells.rd (f := int1) (m := 1) (l := [0]) (fun _ => rfl) ky
    · exact .inl rfl
    · exact Cells.rd (f := int1) (m := 1) (l := [0]) (fun _ => rfl) kz
    · exact .inl rfl
  have hh := rplans_any a c xs (some ⟨X, 0, none⟩) 5 _ w hp hq (by omega) (by simp) hm (by intro x hx; simp only [List.mem_cons, List.not_mem_nil, or_false] at hx; rcases hx with rfl | rfl | rfl | rfl | rfl <;> simp); rw [hl] at hh
  exact hh.mono fun e w' h2 => ⟨by rw [h2.1, hx]; rfl, h2.2⟩
end

section
open Go.RowKit

set_option maxRecDepth 100000 in
set_option maxHeartbeats 16000000 in
theorem awake_any (w : World) :
    Calls Try.prog 22 #[] w (fun e w' => e = .returned (.bool true) ∧ Below w.heap.size w w') := by
 refine enter_F Try.func22 rfl Try.ntmps22 (by simp) ?_
 intro s0 hs; clear hs; have HB := hid (OldB.refl [] w)
 repeat ((fail_if_success refine stp ?_); with_reducible go_step)
 refine region_F ?_; refine pl ?_; refine listF_abs (fun s1 z' => ?_); clear z'; refine listF_nil ?_
 repeat ((fail_if_success refine stp ?_); with_reducible go_step)
 refine region_F ?_; refine listF_step rfl (fun K' hK => ?_); unfold opF; go_simp; refine (kind_any _).mono ?_; rintro e w2 ⟨bk1, rfl, hk1, gk1, hb3⟩; refine ⟨_, rfl, hK _ _ ?_⟩; clear hK K'; replace HB := hid (HB.out.below hb3); clear hb3; refine listF_step rfl (fun K' hK => ?_); unfold opF; go_simp; refine (qneed_any KND (some ⟨bk1, 0, none⟩) 3 950 _ (by decide) (by decide) hk1).mono ?_; rintro e w4 ⟨rfl, hb5⟩; rw [aw_need.1, aw_need.2]; refine ⟨_, rfl, hK _ _ ?_⟩; clear hK K'; replace hk1 := Rd.at hk1 hb5; replace HB := hid (HB.out.below hb5); clear hb5; clear hk1
 iterate 5 refine pl ?_
 refine listF_abs (fun s6 z' => ?_); have sl1 := gu 1 z'; have sl2 := gu 2 z'; clear z'; refine listF_nil ?_
 repeat ((fail_if_success refine stp ?_); with_reducible go_step)
 refine region_F ?_; refine listF_step rfl (fun K' hK => ?_); unfold opF; go_simp; refine (kind_any _).mono ?_; rintro e w7 ⟨bk2, rfl, hk2, gk2, hb8⟩; refine ⟨_, rfl, hK _ _ ?_⟩; clear hK K'; replace HB := hid (HB.out.below hb8); clear hb8; refine listF_step rfl (fun K' hK => ?_); unfold opF; go_simp; refine (checks_any _).mono ?_; rintro e w9 ⟨bc2, rfl, hc2, gc2, hb10⟩; refine ⟨_, rfl, hK _ _ ?_⟩; clear hK K'; replace hk2 := Rd.at hk2 hb10; replace HB := hid (HB.out.below hb10); clear hb10; refine listF_step rfl (fun K' hK => ?_); unfold opF; go_simp; refine (qnow_any KND (some ⟨bk2, 0, none⟩) 3 (some ⟨bc2, 0, none⟩) 3 CHS 250 _ (by decide) (by decide) hk2 hc2 (by decide)).mono ?_; rintro e w11 ⟨rfl, hb12⟩; rw [aw_now.1, aw_now.2.1, aw_now.2.2]; refine ⟨_, rfl, hK _ _ ?_⟩; clear hK K'; replace hk2 := Rd.at hk2 hb12; replace hc2 := Rd.at hc2 hb12; replace HB := hid (HB.out.below hb12); clear hb12; clear hk2 hc2
 iterate 3 refine pl ?_
 refine pa (fun w13 B3 hB kb3' hb14 => ?_); have gb3 := HB.out.gB hB; have eb3 := eB hB; clear hB; replace HB := hid (HB.out.below hb14); clear hb14; have kb3 := kb3'; clear kb3'; have qb3 := kb3.1; have cb3_0 := kb3.cell 0 rfl; have cb3_1 := kb3.cell 1 rfl; have zb3 := kb3.2.2; refine pl ?_; refine listF_absw (fun w15 hw' => ?_); have kb3' := cells_of hw' (Cells.set (i := 1) (Cells.set (i := 0) (kb3)))
 (try simp only [vC, List.set_cons_zero, List.set_cons_succ] at kb3')
 have hb16 : OldB [B3] w13 w15 := oldset hw'; clear hw'; clear cb3_0 cb3_1 zb3; clear qb3; replace kb3 := kb3'; replace HB := hid (HB.out.more hb16 (by simp; try omega)); clear hb16; have qb3 := kb3.1; clear kb3'; refine pl ?_; refine listF_abs (fun s17 z' => ?_); replace sl1 := gs 1 z' sl1; replace sl2 := gs 2 z' sl2; have sl3 := gu 3 z'; have sl4 := gu 4 z'; clear z'; refine listF_nil ?_
 repeat ((fail_if_success refine stp ?_); with_reducible go_step)
 refine region_F ?_; refine listF_step rfl (fun K' hK => ?_); unfold opF; go_simp; refine (kind_any _).mono ?_; rintro e w18 ⟨bk3, rfl, hk3, gk3, hb19⟩; refine ⟨_, rfl, hK _ _ ?_⟩; clear hK K'; clear qb3; replace kb3 := kb3.at hb19; replace HB := hid (HB.out.below hb19); clear hb19; have qb3 := kb3.1; refine listF_step rfl (fun K' hK => ?_); unfold opF; go_simp; refine (checks_any _).mono ?_; rintro e w20 ⟨bc3, rfl, hc3, gc3, hb21⟩; refine ⟨_, rfl, hK _ _ ?_⟩; clear hK K'; clear qb3; replace kb3 := kb3.at hb21; replace hk3 := Rd.at hk3 hb21; replace HB := hid (HB.out.below hb21); clear hb21; have qb3 := kb3.1; refine listF_step rfl (fun K' hK => ?_); unfold opF; go_simp; refine (qfails_any KND (some ⟨bk3, 0, none⟩) 3 (some ⟨bc3, 0, none⟩) 3 CHS 250 _ (by decide) (by decide) hk3 hc3 (by decide)).mono ?_; rintro e w22 ⟨rfl, hb23⟩; rw [aw_fails.1, aw_fails.2.1, aw_fails.2.2]; refine ⟨_, rfl, hK _ _ ?_⟩; clear hK K'; clear qb3; replace kb3 := kb3.at hb23
 replace hk3 := Rd.at hk3 hb23; replace hc3 := Rd.at hc3 hb23; replace HB := hid (HB.out.below hb23); clear hb23; have qb3 := kb3.1; clear hk3 hc3
 iterate 3 refine pl ?_
 refine pa (fun w24 B5 hB kb5' hb25 => ?_); have gb5 := HB.out.gB hB; have ob3_b5 := oB qb3 hB; have eb5 := eB hB; clear hB; clear qb3; replace kb3 := kb3.at hb25; replace HB := hid (HB.out.below hb25); clear hb25; have qb3 := kb3.1; have kb5 := kb5'; clear kb5'; have qb5 := kb5.1; have cb5_0 := kb5.cell 0 rfl; have cb5_1 := kb5.cell 1 rfl; have zb5 := kb5.2.2; refine pl ?_; refine listF_absw (fun w26 hw' => ?_); have kb5' := cells_of hw' (Cells.set (i := 1) (Cells.set (i := 0) (kb5)))
 (try simp only [vC, List.set_cons_zero, List.set_cons_succ] at kb5')
 have hb27 : OldB [B5] w24 w26 := oldset hw'; clear hw'; clear cb5_0 cb5_1 zb5; clear qb3 qb5; replace kb5 := kb5'; replace kb3 := kb3.oldB hb27 (by first | (simp; done) | (simp; omega)); replace HB := hid (HB.out.more hb27 (by simp; try omega)); clear hb27; have qb3 := kb3.1; have qb5 := kb5.1; clear kb5'; refine pl ?_; refine listF_abs (fun s28 z' => ?_); replace sl1 := gs 1 z' sl1; replace sl2 := gs 2 z' sl2; replace sl3 := gs 3 z' sl3; replace sl4 := gs 4 z' sl4; have sl5 := gu 5 z'; have sl6 := gu 6 z'; clear z'; refine listF_nil ?_
 repeat ((fail_if_success refine stp ?_); with_reducible go_step)
 refine region_F ?_; refine listF_step rfl (fun K' hK => ?_); unfold opF; go_simp; refine (kind_any _).mono ?_; rintro e w29 ⟨bk4, rfl, hk4, gk4, hb30⟩; refine ⟨_, rfl, hK _ _ ?_⟩; clear hK K'; clear qb3 qb5; replace kb3 := kb3.at hb30; replace kb5 := kb5.at hb30; replace HB := hid (HB.out.below hb30); clear hb30; have qb3 := kb3.1; have qb5 := kb5.1; refine listF_step rfl (fun K' hK => ?_); unfold opF; go_simp; refine (qlife_any KND (some ⟨bk4, 0, none⟩) 3 2 _ (by decide) (by decide) hk4).mono ?_; rintro e w31 ⟨rfl, hb32⟩; rw [aw_life.1, aw_life.2.1, aw_life.2.2]; refine ⟨_, rfl, hK _ _ ?_⟩; clear hK K'; clear qb3 qb5; replace kb3 := kb3.at hb32; replace kb5 := kb5.at hb32; replace hk4 := Rd.at hk4 hb32; replace HB := hid (HB.out.below hb32); clear hb32; have qb3 := kb3.1; have qb5 := kb5.1; clear hk4
 iterate 3 refine pl ?_
 refine pa (fun w33 B7 hB kb7' hb34 => ?_); have gb7 := HB.out.gB hB; have ob3_b7 := oB qb3 hB; have ob5_b7 := oB qb5 hB; have eb7 := eB hB; clear hB; clear qb3 qb5; replace kb3 := kb3.at hb34; replace kb5 := kb5.at hb34; replace HB := hid (HB.out.below hb34); clear hb34; have qb3 := kb3.1; have qb5 := kb5.1; have kb7 := kb7'; clear kb7'; have qb7 := kb7.1; have cb7_0 := kb7.cell 0 rfl; have cb7_1 := kb7.cell 1 rfl; have zb7 := kb7.2.2; refine pl ?_; refine listF_absw (fun w35 hw' => ?_); have kb7' := cells_of hw' (Cells.set (i := 1) (Cells.set (i := 0) (kb7)))
 (try simp only [vC, List.set_cons_zero, List.set_cons_succ] at kb7')
 have hb36 : OldB [B7] w33 w35 := oldset hw'; clear hw'; clear cb7_0 cb7_1 zb7; clear qb3 qb5 qb7; replace kb7 := kb7'; replace kb3 := kb3.oldB hb36 (by first | (simp; done) | (simp; omega)); replace kb5 := kb5.oldB hb36 (by first | (simp; done) | (simp; omega)); replace HB := hid (HB.out.more hb36 (by simp; try omega)); clear hb36; have qb3 := kb3.1; have qb5 := kb5.1; have qb7 := kb7.1; clear kb7'; refine pl ?_; refine listF_abs (fun s37 z' => ?_); replace sl1 := gs 1 z' sl1; replace sl2 := gs 2 z' sl2; replace sl3 := gs 3 z' sl3; replace sl4 := gs 4 z' sl4; replace sl5 := gs 5 z' sl5; replace sl6 := gs 6 z' sl6; have sl7 := gu 7 z'; have sl8 := gu 8 z'; clear z'; refine listF_nil ?_
 repeat ((fail_if_success refine stp ?_); with_reducible go_step)
 refine region_F ?_; refine listF_step rfl (fun K' hK => ?_); unfold opF; go_simp; refine (kind_any _).mono ?_; rintro e w38 ⟨bk5, rfl, hk5, gk5, hb39⟩; refine ⟨_, rfl, hK _ _ ?_⟩; clear hK K'; clear qb3 qb5 qb7; replace kb3 := kb3.at hb39; replace kb5 := kb5.at hb39; replace kb7 := kb7.at hb39; replace HB := hid (HB.out.below hb39); clear hb39; have qb3 := kb3.1; have qb5 := kb5.1; have qb7 := kb7.1; refine listF_step rfl (fun K' hK => ?_); unfold opF; go_simp; refine (checks_any _).mono ?_; rintro e w40 ⟨bc5, rfl, hc5, gc5, hb41⟩; refine ⟨_, rfl, hK _ _ ?_⟩; clear hK K'; clear qb3 qb5 qb7; replace kb3 := kb3.at hb41; replace kb5 := kb5.at hb41; replace kb7 := kb7.at hb41; replace hk5 := Rd.at hk5 hb41; replace HB := hid (HB.out.below hb41); clear hb41; have qb3 := kb3.1; have qb5 := kb5.1; have qb7 := kb7.1; refine listF_step rfl (fun K' hK => ?_); unfold opF; go_simp; refine (qnext_any KND (some ⟨bk5, 0, none⟩) 3 (some ⟨bc5, 0, none⟩) 3 CHS 250 _ (by decide) (by decide) hk5 hc5 (by decide)).mono ?_; rintro e w42 ⟨rfl, hb43⟩
 rw [aw_next.1, aw_next.2.1, aw_next.2.2]; refine ⟨_, rfl, hK _ _ ?_⟩; clear hK K'; clear qb3 qb5 qb7; replace kb3 := kb3.at hb43; replace kb5 := kb5.at hb43; replace kb7 := kb7.at hb43; replace hk5 := Rd.at hk5 hb43; replace hc5 := Rd.at hc5 hb43; replace HB := hid (HB.out.below hb43); clear hb43; have qb3 := kb3.1; have qb5 := kb5.1; have qb7 := kb7.1; clear hk5 hc5
 iterate 7 refine pl ?_
 refine listF_abs (fun s44 z' => ?_); replace sl1 := gs 1 z' sl1; replace sl2 := gs 2 z' sl2; replace sl3 := gs 3 z' sl3; replace sl4 := gs 4 z' sl4; replace sl5 := gs 5 z' sl5; replace sl6 := gs 6 z' sl6; replace sl7 := gs 7 z' sl7; replace sl8 := gs 8 z' sl8; have sl9 := gu 9 z'; have sl10 := gu 10 z'; have sl11 := gu 11 z'; clear z'; refine listF_nil ?_
 repeat ((fail_if_success refine stp ?_); with_reducible go_step)
 refine region_F ?_; refine listF_step rfl (fun K' hK => ?_); unfold opF; go_simp; refine (kind_any _).mono ?_; rintro e w45 ⟨bk6, rfl, hk6, gk6, hb46⟩; refine ⟨_, rfl, hK _ _ ?_⟩; clear hK K'; clear qb3 qb5 qb7; replace kb3 := kb3.at hb46; replace kb5 := kb5.at hb46; replace kb7 := kb7.at hb46; replace HB := hid (HB.out.below hb46); clear hb46; have qb3 := kb3.1; have qb5 := kb5.1; have qb7 := kb7.1; refine listF_step rfl (fun K' hK => ?_); unfold opF; go_simp; refine (lspan_any 350 649 _).mono ?_; rintro e w47 ⟨rfl, hb48⟩; refine ⟨_, rfl, hK _ _ ?_⟩; clear hK K'; clear qb3 qb5 qb7; replace kb3 := kb3.at hb48; replace kb5 := kb5.at hb48; replace kb7 := kb7.at hb48; replace hk6 := Rd.at hk6 hb48; replace HB := hid (HB.out.below hb48); clear hb48; have qb3 := kb3.1; have qb5 := kb5.1; have qb7 := kb7.1; refine listF_step rfl (fun K' hK => ?_); unfold opF; go_simp; refine (lspan_any 600 900 _).mono ?_; rintro e w49 ⟨rfl, hb50⟩; refine ⟨_, rfl, hK _ _ ?_⟩; clear hK K'
 clear qb3 qb5 qb7; replace kb3 := kb3.at hb50; replace kb5 := kb5.at hb50; replace kb7 := kb7.at hb50; replace hk6 := Rd.at hk6 hb50; replace HB := hid (HB.out.below hb50); clear hb50; have qb3 := kb3.1; have qb5 := kb5.1; have qb7 := kb7.1; refine pas (fun w51 B52 hB kb52' hb52 => ?_); have gb52 := HB.out.gB hB; have ob3_b52 := oB qb3 hB; have ob5_b52 := oB qb5 hB; have ob7_b52 := oB qb7 hB; have eb52 := eB hB; clear hB; clear qb3 qb5 qb7; replace kb3 := kb3.at hb52; replace kb5 := kb5.at hb52; replace kb7 := kb7.at hb52; replace hk6 := Rd.at hk6 hb52; replace HB := hid (HB.out.below hb52); clear hb52; have qb3 := kb3.1; have qb5 := kb5.1; have qb7 := kb7.1; have kb52 := kb52'; clear kb52'; have qb52 := kb52.1; refine listF_step rfl (fun K' hK => ?_); unfold opF; go_simp; refine (qgroup_false KND (some ⟨bk6, 0, none⟩) 3 (some ⟨B52, 0, none⟩) 2 [⟨350, 649⟩, ⟨600, 900⟩] 900 _ (by decide) (by decide) hk6 (Cells.rd (f := Span.cs) (m := 2) (l := [⟨350, 649⟩, ⟨600, 900⟩]) (fun _ => rfl) kb52) (by decide)).mono ?_; rintro e w53 ⟨ag, cg, ah, ch, rfl, hg6, hh6, hb54, fg6, fh6⟩
 rw [aw_group] at hg6 hh6 ⊢
 simp only [List.length_cons, List.length_nil]
 have Fg6 := hid fg6; have Fh6 := hid fh6; clear fg6 fh6; refine ⟨_, rfl, hK _ _ ?_⟩; clear hK K'; clear qb3 qb5 qb7 qb52; replace kb3 := kb3.at hb54; replace kb5 := kb5.at hb54; replace kb7 := kb7.at hb54; replace kb52 := kb52.at hb54; replace hk6 := Rd.at hk6 hb54; replace HB := hid (HB.out.below hb54); clear hb54; have qb3 := kb3.1; have qb5 := kb5.1; have qb7 := kb7.1; have qb52 := kb52.1; clear hk6
 iterate 7 refine pl ?_
 refine listF_abs (fun s55 z' => ?_); replace sl1 := gs 1 z' sl1; replace sl2 := gs 2 z' sl2; replace sl3 := gs 3 z' sl3; replace sl4 := gs 4 z' sl4; replace sl5 := gs 5 z' sl5; replace sl6 := gs 6 z' sl6; replace sl7 := gs 7 z' sl7; replace sl8 := gs 8 z' sl8; replace sl9 := gs 9 z' sl9; replace sl10 := gs 10 z' sl10; replace sl11 := gs 11 z' sl11; have sl12 := gu 12 z'; have sl13 := gu 13 z'; have sl14 := gu 14 z'; clear z'; refine listF_nil ?_
 repeat ((fail_if_success refine stp ?_); with_reducible go_step)
 refine region_F ?_; refine listF_step rfl (fun K' hK => ?_); unfold opF; go_simp; refine (kind_any _).mono ?_; rintro e w56 ⟨bk7, rfl, hk7, gk7, hb57⟩; refine ⟨_, rfl, hK _ _ ?_⟩; clear hK K'; clear qb3 qb5 qb7 qb52; replace kb3 := kb3.at hb57; replace kb5 := kb5.at hb57; replace kb7 := kb7.at hb57; replace kb52 := kb52.at hb57; replace hg6 := Rd.at hg6 hb57; replace hh6 := Rd.at hh6 hb57; replace HB := hid (HB.out.below hb57); clear hb57; have qb3 := kb3.1; have qb5 := kb5.1; have qb7 := kb7.1; have qb52 := kb52.1; refine pl ?_; refine pas (fun w58 B60 hB kb60' hb59 => ?_); have gb60 := HB.out.gB hB; have ob3_b60 := oB qb3 hB; have ob5_b60 := oB qb5 hB; have ob7_b60 := oB qb7 hB; have ob52_b60 := oB qb52 hB; have eb60 := eB hB; clear hB; clear qb3 qb5 qb7 qb52; replace kb3 := kb3.at hb59; replace kb5 := kb5.at hb59; replace kb7 := kb7.at hb59; replace kb52 := kb52.at hb59; replace hg6 := Rd.at hg6 hb59; replace hh6 := Rd.at hh6 hb59; replace hk7 := Rd.at hk7 hb59
 replace HB := hid (HB.out.below hb59); clear hb59; have qb3 := kb3.1; have qb5 := kb5.1; have qb7 := kb7.1; have qb52 := kb52.1; have kb60 := kb60'; clear kb60'; have qb60 := kb60.1; refine pas (fun w60 B61 hB kb61' hb61 => ?_); have gb61 := HB.out.gB hB; have ob3_b61 := oB qb3 hB; have ob5_b61 := oB qb5 hB; have ob7_b61 := oB qb7 hB; have ob52_b61 := oB qb52 hB; have ob60_b61 := oB qb60 hB; have eb61 := eB hB; clear hB; clear qb3 qb5 qb7 qb52 qb60; replace kb3 := kb3.at hb61; replace kb5 := kb5.at hb61; replace kb7 := kb7.at hb61; replace kb52 := kb52.at hb61; replace kb60 := kb60.at hb61; replace hg6 := Rd.at hg6 hb61; replace hh6 := Rd.at hh6 hb61; replace hk7 := Rd.at hk7 hb61; replace HB := hid (HB.out.below hb61); clear hb61; have qb3 := kb3.1; have qb5 := kb5.1; have qb7 := kb7.1; have qb52 := kb52.1; have qb60 := kb60.1; have kb61 := kb61'; clear kb61'; have qb61 := kb61.1; refine listF_step rfl (fun K' hK => ?_); unfold opF; go_simp; refine (qreplace_any (some ⟨B60, 0, none⟩) 1 [VLK bk7] (some ⟨B61, 0, none⟩) 5 [100, 200, 300, 400, 500] 0 600 _ ⟨Cells.rd (f := Vl.vs) (m := 5) (l := [VLK bk7]) (fun _ => rfl) kb60, (by simpa using hk7), (by simp; exact .inl rfl), (by simp [VlIn])⟩ (Cells.rd (f := int1) (m := 1) (l := [100, 200, 300, 400, 500]) (fun _ => rfl) kb61) (by simp) (by decide)).mono ?_; rintro e w62 ⟨ap, xs7, cp, rfl, hp7, hx7, hb63, fp7⟩
 rw [aw_rep] at hx7 ⊢
 have hl7 : xs7.length = 5 := by have := congrArg List.length hx7; simpa using this
 rw [hl7]; have Hx7 := hid hx7; clear hl7 hx7 fp7; refine ⟨_, rfl, hK _ _ ?_⟩; clear hK K'; clear qb3 qb5 qb7 qb52 qb60 qb61; replace kb3 := kb3.at hb63; replace kb5 := kb5.at hb63; replace kb7 := kb7.at hb63; replace kb52 := kb52.at hb63; replace kb60 := kb60.at hb63; replace kb61 := kb61.at hb63; replace hg6 := Rd.at hg6 hb63; replace hh6 := Rd.at hh6 hb63; replace hk7 := Rd.at hk7 hb63; replace HB := hid (HB.out.below hb63); clear hb63; have qb3 := kb3.1; have qb5 := kb5.1; have qb7 := kb7.1; have qb52 := kb52.1; have qb60 := kb60.1; have qb61 := kb61.1; clear hk7
 iterate 5 refine pl ?_
 refine listF_abs (fun s64 z' => ?_); replace sl1 := gs 1 z' sl1; replace sl2 := gs 2 z' sl2; replace sl3 := gs 3 z' sl3; replace sl4 := gs 4 z' sl4; replace sl5 := gs 5 z' sl5; replace sl6 := gs 6 z' sl6; replace sl7 := gs 7 z' sl7; replace sl8 := gs 8 z' sl8; replace sl9 := gs 9 z' sl9; replace sl10 := gs 10 z' sl10; replace sl11 := gs 11 z' sl11; replace sl12 := gs 12 z' sl12; replace sl13 := gs 13 z' sl13; replace sl14 := gs 14 z' sl14; have sl15 := gu 15 z'; have sl16 := gu 16 z'; clear z'; refine listF_nil ?_
 repeat ((fail_if_success refine stp ?_); with_reducible go_step)
 refine region_F ?_; refine listF_step rfl (fun K' hK => ?_); unfold opF; go_simp; refine (kind_any _).mono ?_; rintro e w65 ⟨bk8, rfl, hk8, gk8, hb66⟩; refine ⟨_, rfl, hK _ _ ?_⟩; clear hK K'; clear qb3 qb5 qb7 qb52 qb60 qb61; replace kb3 := kb3.at hb66; replace kb5 := kb5.at hb66; replace kb7 := kb7.at hb66; replace kb52 := kb52.at hb66; replace kb60 := kb60.at hb66; replace kb61 := kb61.at hb66; replace hg6 := Rd.at hg6 hb66; replace hh6 := Rd.at hh6 hb66; replace hp7 := RdPlan.at hp7 hb66; replace HB := hid (HB.out.below hb66); clear hb66; have qb3 := kb3.1; have qb5 := kb5.1; have qb7 := kb7.1; have qb52 := kb52.1; have qb60 := kb60.1; have qb61 := kb61.1; refine listF_step rfl (fun K' hK => ?_); unfold opF; go_simp; refine (qneed_any KND (some ⟨bk8, 0, none⟩) 3 799 _ (by decide) (by decide) hk8).mono ?_; rintro e w67 ⟨rfl, hb68⟩; rw [aw_need2.1, aw_need2.2]; refine ⟨_, rfl, hK _ _ ?_⟩; clear hK K'; clear qb3 qb5 qb7 qb52 qb60 qb61; replace kb3 := kb3.at hb68
 replace kb5 := kb5.at hb68; replace kb7 := kb7.at hb68; replace kb52 := kb52.at hb68; replace kb60 := kb60.at hb68; replace kb61 := kb61.at hb68; replace hg6 := Rd.at hg6 hb68; replace hh6 := Rd.at hh6 hb68; replace hp7 := RdPlan.at hp7 hb68; replace hk8 := Rd.at hk8 hb68; replace HB := hid (HB.out.below hb68); clear hb68; have qb3 := kb3.1; have qb5 := kb5.1; have qb7 := kb7.1; have qb52 := kb52.1; have qb60 := kb60.1; have qb61 := kb61.1; clear hk8
 iterate 5 refine pl ?_
 refine listF_abs (fun s69 z' => ?_); replace sl1 := gs 1 z' sl1; replace sl2 := gs 2 z' sl2; replace sl3 := gs 3 z' sl3; replace sl4 := gs 4 z' sl4; replace sl5 := gs 5 z' sl5; replace sl6 := gs 6 z' sl6; replace sl7 := gs 7 z' sl7; replace sl8 := gs 8 z' sl8; replace sl9 := gs 9 z' sl9; replace sl10 := gs 10 z' sl10; replace sl11 := gs 11 z' sl11; replace sl12 := gs 12 z' sl12; replace sl13 := gs 13 z' sl13; replace sl14 := gs 14 z' sl14; replace sl15 := gs 15 z' sl15; replace sl16 := gs 16 z' sl16; have sl18 := gu 18 z'; clear z'; refine listF_nil ?_
 repeat ((fail_if_success refine stp ?_); with_reducible go_step)
 simp only [List.append_eq, List.cons_append, List.nil_append]
 have cb3_0 := kb3.cell 0 rfl; have cb3_1 := kb3.cell 1 rfl; have cb5_0 := kb5.cell 0 rfl; have cb5_1 := kb5.cell 1 rfl; have cb7_0 := kb7.cell 0 rfl; have cb7_1 := kb7.cell 1 rfl; have cb52_0 := kb52.cell 0 rfl; have cb52_1 := kb52.cell 1 rfl; have cb52_2 := kb52.cell 2 rfl; have cb52_3 := kb52.cell 3 rfl; have cb60_0 := kb60.cell 0 rfl; have cb60_1 := kb60.cell 1 rfl; have cb60_2 := kb60.cell 2 rfl; have cb60_3 := kb60.cell 3 rfl; have cb60_4 := kb60.cell 4 rfl; have cb61_0 := kb61.cell 0 rfl; have cb61_1 := kb61.cell 1 rfl; have cb61_2 := kb61.cell 2 rfl; have cb61_3 := kb61.cell 3 rfl; have cb61_4 := kb61.cell 4 rfl; refine regionR_F [] [] [61, 66, 71, 72, 73] [.q [], .q [], .q [], .q [], .q [], .q [], .q [], .q [], .q [], .q [], .q [], .q [], .q [], .q [], .q [], .q [], .q [], .q [], .q [], .q [], .q [], .q [], .q [], .q [], .q [], .q [], .q [], .q [], .q [], .q [], .q [], .q [], .q [], .q [], .q [], .q [], .q [], .q [], .q [], .q [], .q [], .q [], .q [], .q [], .q [], .q [], .q [], .q [], .q [], .q [], .q [], .q [], .q [], .q [], .q [], .q [], .q [], .q [], .q [], .q [], .q [], .a, .q [61], .q [], .q [], .q [], .a, .q [66], .q [], .q [], .q [], .a, .a, .a, .q [73, 71, 72]] [?v16_0, ?v16_1, ?v16_2, ?v16_3, ?v16_4, ?v16_5, ?v16_6, ?v16_7, ?v16_8, ?v16_9, ?v16_10, ?v16_11, ?v16_12, ?v16_13, ?v16_14, ?v16_15, ?v16_16, ?v16_17, ?v16_18, ?v16_19, ?v16_20, ?v16_21, ?v16_22, ?v16_23, ?v16_24, ?v16_25, ?v16_26, ?v16_27, ?v16_28, ?v16_29, ?v16_30, ?v16_31, ?v16_32, ?v16_33, ?v16_34, ?v16_35, ?v16_36, ?v16_37, ?v16_38, ?v16_39, ?v16_40, ?v16_41, ?v16_42, ?v16_43, ?v16_44, ?v16_45, ?v16_46, ?v16_47, ?v16_48, ?v16_49, ?v16_50, ?v16_51, ?v16_52, ?v16_53, ?v16_54, ?v16_55, ?v16_56, ?v16_57, ?v16_58, ?v16_59, ?v16_60, ?v16_61, ?v16_62, ?v16_63, ?v16_64, ?v16_65, ?v16_66, ?v16_67, ?v16_68, ?v16_69, ?v16_70, ?v16_71, ?v16_72, ?v16_73, ?v16_74] [fun _ => [], fun _ => [], fun _ => [], fun _ => [], fun _ => [], fun _ => [], fun _ => [], fun _ => [], fun _ => [], fun _ => [], fun _ => [], fun _ => [], fun _ => [], fun _ => [], fun _ => [], fun _ => [], fun _ => [], fun _ => [], fun _ => [], fun _ => [], fun _ => [], fun _ => [], fun _ => [], fun _ => [], fun _ => [], fun _ => [], fun _ => [], fun _ => [], fun _ => [], fun _ => [], fun _ => [], fun _ => [], fun _ => [], fun _ => [], fun _ => [], fun _ => [], fun _ => [], fun _ => [], fun _ => [], fun _ => [], fun _ => [], fun _ => [], fun _ => [], fun _ => [], fun _ => [], fun _ => [], fun _ => [], fun _ => [], fun _ => [], fun _ => [], fun _ => [], fun _ => [], fun _ => [], fun _ => [], fun _ => [], fun _ => [], fun _ => [], fun _ => [], fun _ => [], fun _ => [], fun _ => [], ?c16_61, fun _ => [], fun _ => [], fun _ => [], fun _ => [], ?c16_66, fun _ => [], fun _ => [], fun _ => [], fun _ => [], ?c16_71, ?c16_72, ?c16_73, fun _ => []] (by kernel_rfl) (by kernel_rfl) (by kernel_rfl) (by kernel_rfl) (by kernel_rfl) (by first | exact List.nodup_nil | exact List.nodup_singleton _ | (simp; done) | (simp; omega)) bc_nil ?walk16 ?dep16
 case walk16 =>
  iterate 3 refine rq ?_
  refine rqy ?_; refine rqy ?_; refine rq ?_; refine rq ?_; refine rqy ?_; refine rqy ?_; refine rq ?_; refine rq ?_; refine rqy ?_; refine rqy ?_; refine rq ?_; refine rq ?_; refine rqy ?_; refine rqy ?_; refine rq ?_; refine rq ?_; refine rqy ?_; refine rqy ?_; refine rq ?_; refine rq ?_; refine rqy ?_; refine rqy ?_; refine rq ?_; refine rq ?_; refine rqy ?_; refine rqy ?_; refine rq ?_; refine rq ?_; refine rqy ?_; refine rqy ?_; refine rq ?_; refine rq ?_; refine rqy ?_; refine walkR_qg (by rfl) (by rfl) (by decide) (fun X hX => ?_) (fun X hX wq hwq hrq => ?_) ?_
  · go_simp
  · obtain ⟨hcq, hfq⟩ := hwq.b0
    clear hrq; go_simp
    (with_reducible exact (lspan_any 350 649 _))
  refine rqy ?_; refine rq ?_; refine rq ?_
  iterate 3 refine rqy ?_
  refine rq ?_; refine rq ?_
  iterate 3 refine rqy ?_
  refine rq ?_; refine rq ?_; refine rqy ?_; refine rqy ?_; refine rq ?_; refine rq ?_; refine rqy ?_; refine rqy ?_; refine rq ?_; refine rq ?_; refine rqy ?_; refine walkR_qg (by rfl) (by rfl) (by decide) (fun X hX => ?_) (fun X hX wq hwq hrq => ?_) ?_
  · go_simp
  · obtain ⟨hcq, hfq⟩ := hwq.b0
    clear hrq; go_simp
    (with_reducible exact (lspan_any 350 499 _))
  refine walkR_qg (by rfl) (by rfl) (by decide) (fun X hX => ?_) (fun X hX wq hwq hrq => ?_) ?_
  · go_simp
  · obtain ⟨hcq, hfq⟩ := hwq.b0
    clear hrq; go_simp
    (with_reducible exact (lspan_any 600 900 _))
  refine walkR_ag (by rfl) (by rfl) (by decide) (fun X hX => ?_) (fun X hX wq hwq hsq => ?_) ?_
  · go_simp
  · go_simp
    refine newB_mk ?_ ?_
    · rfl
    · rfl
  refine walkR_qg (by rfl) (by rfl) (by decide) (fun X hX => ?_) (fun X hX wq hwq hrq => ?_) ?_
  · go_simp
  · obtain ⟨hcq, hfq⟩ := hwq.b0
    have kq61 := hrq 61 (by simp)
    simp only [updC_some, updC_none, Nat.reduceEqDiff, ↓reduceIte] at kq61
    have kqs61 := kq61.1; clear hrq; go_simp
    (with_reducible exact (exSpans_c hg6 hwq kq61))
  refine rq ?_; refine rq ?_; refine rqy ?_; refine walkR_ag (by rfl) (by rfl) (by decide) (fun X hX => ?_) (fun X hX wq hwq hsq => ?_) ?_
  · go_simp
  · go_simp
    refine newB_mk ?_ ?_
    · rfl
    · rfl
  refine walkR_qg (by rfl) (by rfl) (by decide) (fun X hX => ?_) (fun X hX wq hwq hrq => ?_) ?_
  · go_simp
  · obtain ⟨hcq, hfq⟩ := hwq.b0
    have kq66 := hrq 66 (by simp)
    simp only [updC_some, updC_none, Nat.reduceEqDiff, ↓reduceIte] at kq66
    have kqs66 := kq66.1; clear hrq; go_simp
    (with_reducible exact (exInts_c hh6 hwq kq66))
  refine rq ?_; refine rq ?_; refine rqy ?_; refine walkR_ag (by rfl) (by rfl) (by decide) (fun X hX => ?_) (fun X hX wq hwq hsq => ?_) ?_
  · go_simp
  · go_simp
    refine newB_mk ?_ ?_
    · rfl
    · rfl
  refine walkR_ag (by rfl) (by rfl) (by decide) (fun X hX => ?_) (fun X hX wq hwq hsq => ?_) ?_
  · go_simp
  · go_simp
    refine newB_mk ?_ ?_
    · rfl
    · rfl
  refine walkR_ag (by rfl) (by rfl) (by decide) (fun X hX => ?_) (fun X hX wq hwq hsq => ?_) ?_
  · go_simp
  · go_simp
    refine newB_mk ?_ ?_
    · rfl
    · rfl
  refine walkR_qg (by rfl) (by rfl) (by decide) (fun X hX => ?_) (fun X hX wq hwq hrq => ?_) ?_
  · go_simp
  · obtain ⟨hcq, hfq⟩ := hwq.b0
    have kq73 := hrq 73 (by simp)
    simp only [updC_some, updC_none, Nat.reduceEqDiff, ↓reduceIte] at kq73
    have kqs73 := kq73.1; have kq71 := hrq 71 (by simp)
    simp only [updC_some, updC_none, Nat.reduceEqDiff, ↓reduceIte] at kq71
    have kqs71 := kq71.1; have kq72 := hrq 72 (by simp)
    simp only [updC_some, updC_none, Nat.reduceEqDiff, ↓reduceIte] at kq72
    have kqs72 := kq72.1; clear hrq; go_simp
    (with_reducible exact (exPlans_c hp7 Hx7.out hwq kq73 kq71 kq72))
  refine walkR_nil (fun X hX w70 hwz hcz => ?_); have ka61 := hcz 61 (by simp)
  simp only [updC_some, updC_none, Nat.reduceEqDiff, ↓reduceIte] at ka61
  have la61 := hX.lo 61 rfl; have ln61_66 := hX.ne 61 66 rfl rfl (by decide); have ln61_71 := hX.ne 61 71 rfl rfl (by decide); have ln61_72 := hX.ne 61 72 rfl rfl (by decide); have ln61_73 := hX.ne 61 73 rfl rfl (by decide); have ka66 := hcz 66 (by simp)
  simp only [updC_some, updC_none, Nat.reduceEqDiff, ↓reduceIte] at ka66
  have la66 := hX.lo 66 rfl; have ln66_71 := hX.ne 66 71 rfl rfl (by decide); have ln66_72 := hX.ne 66 72 rfl rfl (by decide); have ln66_73 := hX.ne 66 73 rfl rfl (by decide); have ka71 := hcz 71 (by simp)
  simp only [updC_some, updC_none, Nat.reduceEqDiff, ↓reduceIte] at ka71
  have la71 := hX.lo 71 rfl; have ln71_72 := hX.ne 71 72 rfl rfl (by decide); have ln71_73 := hX.ne 71 73 rfl rfl (by decide); have ka72 := hcz 72 (by simp)
  simp only [updC_some, updC_none, Nat.reduceEqDiff, ↓reduceIte] at ka72
  have la72 := hX.lo 72 rfl; have ln72_73 := hX.ne 72 73 rfl rfl (by decide); have ka73 := hcz 73 (by simp)
  simp only [updC_some, updC_none, Nat.reduceEqDiff, ↓reduceIte] at ka73
  have la73 := hX.lo 73 rfl; clear hX hcz
  generalize X 61 = J61 at *
  generalize X 66 = J66 at *
  generalize X 71 = J71 at *
  generalize X 72 = J72 at *
  generalize X 73 = J73 at *
  (try clear X)
  skip; have hb71 := hwz.unDrew; clear hwz; have gJ := HB.out.size; replace la61 : w67.heap.size ≤ J61 := la61; replace la66 : w67.heap.size ≤ J66 := la66; replace la71 : w67.heap.size ≤ J71 := la71; replace la72 : w67.heap.size ≤ J72 := la72; replace la73 : w67.heap.size ≤ J73 := la73
  have ob3_J61 : B3 < J61 := by have := qb3; omega
  have ob5_J61 : B5 < J61 := by have := qb5; omega
  have ob7_J61 : B7 < J61 := by have := qb7; omega
  have ob52_J61 : B52 < J61 := by have := qb52; omega
  have ob60_J61 : B60 < J61 := by have := qb60; omega
  have ob61_J61 : B61 < J61 := by have := qb61; omega
  have ob3_J66 : B3 < J66 := by have := qb3; omega
  have ob5_J66 : B5 < J66 := by have := qb5; omega
  have ob7_J66 : B7 < J66 := by have := qb7; omega
  have ob52_J66 : B52 < J66 := by have := qb52; omega
  have ob60_J66 : B60 < J66 := by have := qb60; omega
  have ob61_J66 : B61 < J66 := by have := qb61; omega
  have ob3_J71 : B3 < J71 := by have := qb3; omega
  have ob5_J71 : B5 < J71 := by have := qb5; omega
  have ob7_J71 : B7 < J71 := by have := qb7; omega
  have ob52_J71 : B52 < J71 := by have := qb52; omega
  have ob60_J71 : B60 < J71 := by have := qb60; omega
  have ob61_J71 : B61 < J71 := by have := qb61; omega
  have ob3_J72 : B3 < J72 := by have := qb3; omega
  have ob5_J72 : B5 < J72 := by have := qb5; omega
  have ob7_J72 : B7 < J72 := by have := qb7; omega
  have ob52_J72 : B52 < J72 := by have := qb52; omega
  have ob60_J72 : B60 < J72 := by have := qb60; omega
  have ob61_J72 : B61 < J72 := by have := qb61; omega
  have ob3_J73 : B3 < J73 := by have := qb3; omega
  have ob5_J73 : B5 < J73 := by have := qb5; omega
  have ob7_J73 : B7 < J73 := by have := qb7; omega
  have ob52_J73 : B52 < J73 := by have := qb52; omega
  have ob60_J73 : B60 < J73 := by have := qb60; omega
  have ob61_J73 : B61 < J73 := by have := qb61; omega
  clear cb3_0 cb3_1 cb5_0 cb5_1 cb52_0 cb52_1 cb52_2 cb52_3 cb60_0 cb60_1 cb60_2 cb60_3 cb60_4 cb61_0 cb61_1 cb61_2 cb61_3 cb61_4 cb7_0 cb7_1; clear qb3 qb5 qb7 qb52 qb60 qb61; replace kb3 := kb3.oldB hb71 (by first | (simp; done) | (simp; omega)); replace kb5 := kb5.oldB hb71 (by first | (simp; done) | (simp; omega)); replace kb7 := kb7.oldB hb71 (by first | (simp; done) | (simp; omega)); replace kb52 := kb52.oldB hb71 (by first | (simp; done) | (simp; omega)); replace kb60 := kb60.oldB hb71 (by first | (simp; done) | (simp; omega)); replace kb61 := kb61.oldB hb71 (by first | (simp; done) | (simp; omega)); replace hg6 := Rd.oldB hg6 hb71 (by simp); replace hh6 := Rd.oldB hh6 hb71 (by simp); replace hp7 := RdPlan.oldB hp7 hb71; replace HB := hid (HB.out.more hb71 (by simp; try omega)); clear hb71; have qb3 := kb3.1; have qb5 := kb5.1; have qb7 := kb7.1; have qb52 := kb52.1; have qb60 := kb60.1; have qb61 := kb61.1
  have gb131 : w.heap.size ≤ J61 := by omega
  have kb131 := ka61; clear ka61; have qb131 := kb131.1
  have gb136 : w.heap.size ≤ J66 := by omega
  have kb136 := ka66; clear ka66; have qb136 := kb136.1
  have gb141 : w.heap.size ≤ J71 := by omega
  have kb141 := ka71; clear ka71; have qb141 := kb141.1
  have gb142 : w.heap.size ≤ J72 := by omega
  have kb142 := ka72; clear ka72; have qb142 := kb142.1
  have gb143 : w.heap.size ≤ J73 := by omega
  have kb143 := ka73; clear ka73; have qb143 := kb143.1; refine pl ?_; refine pl ?_; refine listF_abs (fun s72 z' => ?_); have sl0 := gu 0 z'; clear z' sl1 sl2 sl3 sl4 sl5 sl6 sl7 sl8 sl9 sl10 sl11 sl12 sl13 sl14 sl15 sl16 sl18; refine listF_nil ?_
  repeat ((fail_if_success refine stp ?_); with_reducible go_step)
  refine ret_F _ (res_t Try.results22 ((getD_F (by decide)).trans sl0)) ?_; exact ⟨rfl, HB.out.toBelow⟩
 case dep16 =>
   iterate 61 refine dR ?_
   refine depR_cons (fun X X' h => ?_) ?_
   · (first | exact ⟨rfl, rfl⟩ | (have e61 := h 61 (by decide +kernel); constructor <;> (first | rfl | (simp only [e61]))))
   refine depR_cons (fun X X' h => ?_) ?_
   · (first | exact ⟨rfl, rfl⟩ | (have e61 := h 61 (by decide +kernel); constructor <;> (first | rfl | (simp only [e61]))))
   refine depR_cons (fun X X' h => ?_) ?_
   · (first | exact ⟨rfl, rfl⟩ | (have e61 := h 61 (by decide +kernel); constructor <;> (first | rfl | (simp only [e61]))))
   refine depR_cons (fun X X' h => ?_) ?_
   · (first | exact ⟨rfl, rfl⟩ | (have e61 := h 61 (by decide +kernel); constructor <;> (first | rfl | (simp only [e61]))))
   refine depR_cons (fun X X' h => ?_) ?_
   · (first | exact ⟨rfl, rfl⟩ | (have e61 := h 61 (by decide +kernel); constructor <;> (first | rfl | (simp only [e61]))))
   refine depR_cons (fun X X' h => ?_) ?_
   · (first | exact ⟨rfl, rfl⟩ | (have e61 := h 61 (by decide +kernel); have e66 := h 66 (by decide +kernel); constructor <;> (first | rfl | (simp only [e61, e66]))))
   refine depR_cons (fun X X' h => ?_) ?_
   · (first | exact ⟨rfl, rfl⟩ | (have e61 := h 61 (by decide +kernel); have e66 := h 66 (by decide +kernel); constructor <;> (first | rfl | (simp only [e61, e66]))))
   refine depR_cons (fun X X' h => ?_) ?_
   · (first | exact ⟨rfl, rfl⟩ | (have e61 := h 61 (by decide +kernel); have e66 := h 66 (by decide +kernel); constructor <;> (first | rfl | (simp only [e61, e66]))))
   refine depR_cons (fun X X' h => ?_) ?_
   · (first | exact ⟨rfl, rfl⟩ | (have e61 := h 61 (by decide +kernel); have e66 := h 66 (by decide +kernel); constructor <;> (first | rfl | (simp only [e61, e66]))))
   refine depR_cons (fun X X' h => ?_) ?_
   · (first | exact ⟨rfl, rfl⟩ | (have e61 := h 61 (by decide +kernel); have e66 := h 66 (by decide +kernel); constructor <;> (first | rfl | (simp only [e61, e66]))))
   refine depR_cons (fun X X' h => ?_) ?_
   · (first | exact ⟨rfl, rfl⟩ | (have e61 := h 61 (by decide +kernel); have e66 := h 66 (by decide +kernel); have e71 := h 71 (by decide +kernel); constructor <;> (first | rfl | (simp only [e61, e66, e71]))))
   refine depR_cons (fun X X' h => ?_) ?_
   · (first | exact ⟨rfl, rfl⟩ | (have e61 := h 61 (by decide +kernel); have e66 := h 66 (by decide +kernel); have e72 := h 72 (by decide +kernel); constructor <;> (first | rfl | (simp only [e61, e66, e72]))))
   refine depR_cons (fun X X' h => ?_) ?_
   · (first | exact ⟨rfl, rfl⟩ | (have e61 := h 61 (by decide +kernel); have e66 := h 66 (by decide +kernel); have e71 := h 71 (by decide +kernel); have e72 := h 72 (by decide +kernel); have e73 := h 73 (by decide +kernel); constructor <;> (first | rfl | (simp only [e61, e66, e71, e72, e73]))))
   refine depR_cons (fun X X' h => ?_) ?_
   · (first | exact ⟨rfl, rfl⟩ | (have e61 := h 61 (by decide +kernel); have e66 := h 66 (by decide +kernel); have e71 := h 71 (by decide +kernel); have e72 := h 72 (by decide +kernel); have e73 := h 73 (by decide +kernel); constructor <;> (first | rfl | (simp only [e61, e66, e71, e72, e73]))))
   exact depR_nil
end


end Go.Proofs.Ytndcmmghgljinaa
