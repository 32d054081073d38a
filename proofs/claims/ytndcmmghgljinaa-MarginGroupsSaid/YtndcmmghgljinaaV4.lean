/- MarginGroups. -/
import Derived.Test.YtndcmmghgljinaaW43
import Derived.Test.YtndcmmghgljinaaW30
import Derived.Test.YtndcmmghgljinaaW29
import Derived.Test.YtndcmmghgljinaaW19
import Derived.Test.YtndcmmghgljinaaR3
set_option linter.all false
namespace Go.Proofs.Ytndcmmghgljinaa
open Go.RowKit


theorem qgroup_any (k : Kd) (a : Option Addr) (c : Nat) (al : Option Addr) (cl : Nat) (l : List Span) (v : Int) (p : Bool) (w : World) (hN : -9223372036854775808 ≤ k.new ∧ k.new ≤ 9223372036854775807) (hsl : k.steps.length ≤ 9223372036854775807) (hR : RdSteps w a k.steps) (hRl : RdSpans w al l) (hll : l.length ≤ 9223372036854775807) :
    Calls Try.prog 31 #[.agg #[.int .i64 k.new, .int .i64 k.wear.lo, .int .i64 k.wear.hi, .slice a k.steps.length c], .slice al l.length cl, .int .i64 v, .bool p] w (GrpRes k l v p w) := by
  cases p
  · exact qgroup_false k a c al cl l v w hN hsl hR hRl hll
  · exact qgroup_true k a c al cl l v w hN hsl hR hRl hll
theorem rgroup_any (k : Kd) (a : Option Addr) (c : Nat) (al : Option Addr) (cl : Nat) (l : List Span) (v : Int) (p : Bool) (w : World) (hsl : k.steps.length ≤ 9223372036854775807) (hR : RdSteps w a k.steps) (hRl : RdSpans w al l) (hll : l.length ≤ 9223372036854775807) :
    Calls Try.prog 32 #[.agg #[.int .i64 k.new, .int .i64 k.wear.lo, .int .i64 k.wear.hi, .slice a k.steps.length c], .slice al l.length cl, .int .i64 v, .bool p] w (GrpRes k l v p w) := by
  cases p
  · exact rgroup_false k a c al cl l v w hsl hR hRl hll
  · exact rgroup_true k a c al cl l v w hsl hR hRl hll
theorem grp_len (k : Kd) (l : List Span) (v : Int) (p : Bool) : (grpRes k l v p).1.length ≤ l.length ∧ (grpRes k l v p).2.1.length ≤ l.length := by
  unfold grpRes
  split
  · exact ⟨Nat.zero_le _, Nat.zero_le _⟩
  · split
    · exact ⟨Nat.zero_le _, Nat.zero_le _⟩
    · constructor
      · show (aftOf k l v p).length ≤ _
        unfold aftOf
        split
        · simp
        · split <;> simp
      · show (susOf k l v p).length ≤ _
        unfold susOf
        split
        · exact Nat.zero_le _
        · exact susUp_len _ _ _
theorem sameSpans_c {w : World} {a a' : Option Addr} {c c' : Nat} {l : List Span} (h : RdSpans w a l) (h' : RdSpans w a' l) (hl : l.length ≤ 9223372036854775807) :
    Calls Try.prog 33 #[.slice a l.length c, .slice a' l.length c'] w (fun e w' => e = .returned (.bool true) ∧ Below w.heap.size w w') :=
  (rspans_any a c l a' c' l w h h' hl hl).mono fun e w' hh => ⟨by rw [hh.1]; simp, hh.2⟩
theorem sameInts_c {w : World} {a a' : Option Addr} {c c' : Nat} {l : List Int} (h : RdInts w a l) (h' : RdInts w a' l) (hl : l.length ≤ 9223372036854775807) :
    Calls Try.prog 34 #[.slice a l.length c, .slice a' l.length c'] w (fun e w' => e = .returned (.bool true) ∧ Below w.heap.size w w') :=
  (rints_any a c l a' c' l w h h' hl hl).mono fun e w' hh => ⟨by rw [hh.1]; simp, hh.2⟩

set_option maxRecDepth 100000 in
set_option maxHeartbeats 16000000 in
theorem groups_walk (k : Kd) (a : Option Addr) (c : Nat) (al : Option Addr) (cl : Nat) (l : List Span) (v : Int) (p : Bool) (w : World) (hK0 : KdIn w k a) (hRl : RdSpans w al l) (hll : l.length ≤ 9223372036854775807) :
    Calls Try.prog 6 #[.agg #[.int .i64 k.new, .int .i64 k.wear.lo, .int .i64 k.wear.hi, .slice a k.steps.length c], .agg #[.slice al l.length cl, .int .i64 v, .bool p]] w (fun e w' => e = .returned (.bool true) ∧ Below w.heap.size w w') := by
 have HR := hid hK0.2.2; have hN := hK0.1; have hsl := hK0.2.1; clear hK0; have HRl := hid hRl; clear hRl; have Hg := hid (grp_len k l v p)
 refine enter_F Try.func6 rfl Try.ntmps6 (by simp) ?_
 intro s0 hs; have sl0 : s0 0 = .agg #[.int .i64 k.new, .int .i64 k.wear.lo, .int .i64 k.wear.hi, .slice a k.steps.length c] := hs 0 (by simp); have sl1 : s0 1 = .agg #[.slice al l.length cl, .int .i64 v, .bool p] := hs 1 (by simp); clear hs; have HB := hid (OldB.refl [] w)
 repeat ((fail_if_success refine stp ?_); with_reducible go_step)
 refine region_F ?_; refine pa (fun w1 B2 hB kb2' hb2 => ?_); have gb2 := HB.out.gB hB; have eb2 := eB hB; clear hB; replace HB := hid (HB.out.below hb2); clear hb2; have kb2 := kb2'; clear kb2'; have qb2 := kb2.1; refine pa (fun w3 B3 hB kb3' hb4 => ?_); have gb3 := HB.out.gB hB; have ob2_b3 := oB qb2 hB; have eb3 := eB hB; clear hB; clear qb2; replace kb2 := kb2.at hb4; replace HB := hid (HB.out.below hb4); clear hb4; have qb2 := kb2.1; have kb3 := kb3'; clear kb3'; have qb3 := kb3.1; refine pl ?_; refine listF_abs (fun s5 hs' => ?_); have sl2 := gu 2 hs'; have sl3 := gu 3 hs'; clear hs' sl0 sl1; refine listF_nil ?_
 repeat ((fail_if_success refine stp ?_); with_reducible go_step)
 refine region_F ?_; have cb2_0 := kb2.cell 0 rfl; have cb2_1 := kb2.cell 1 rfl; have cb2_2 := kb2.cell 2 rfl; have cb2_3 := kb2.cell 3 rfl; refine pl ?_; refine pl ?_; have cb3_0 := kb3.cell 0 rfl; have cb3_1 := kb3.cell 1 rfl; have cb3_2 := kb3.cell 2 rfl
 iterate 5 refine pl ?_
 refine listF_step rfl (fun K' hK => ?_); unfold opF; go_simp; refine (qgroup_any k a c al cl l v p _ hN hsl (Rd.oldB HR.out HB.out (by simp)) (Rd.oldB HRl.out HB.out (by simp)) hll).mono ?_; rintro e w6 ⟨ag, cg, ah, ch, rfl, hg1, hh1, hb7, fg1, fh1⟩; clear fg1 fh1; refine ⟨_, rfl, hK _ _ ?_⟩; clear hK K'; clear cb2_0 cb2_1 cb2_2 cb2_3 cb3_0 cb3_1 cb3_2; clear qb2 qb3; replace kb2 := kb2.at hb7; replace kb3 := kb3.at hb7; replace HB := hid (HB.out.below hb7); clear hb7; have qb2 := kb2.1; have qb3 := kb3.1
 iterate 7 refine pl ?_
 refine listF_abs (fun s8 hs' => ?_); replace sl2 := gs 2 hs' sl2; replace sl3 := gs 3 hs' sl3; have sl5 := gu 5 hs'; have sl6 := gu 6 hs'; have sl7 := gu 7 hs'; clear hs'; refine listF_nil ?_
 repeat ((fail_if_success refine stp ?_); with_reducible go_step)
 refine region_F ?_; have cb2_0 := kb2.cell 0 rfl; have cb2_1 := kb2.cell 1 rfl; have cb2_2 := kb2.cell 2 rfl; have cb2_3 := kb2.cell 3 rfl; refine pl ?_; refine pl ?_; have cb3_0 := kb3.cell 0 rfl; have cb3_1 := kb3.cell 1 rfl; have cb3_2 := kb3.cell 2 rfl
 iterate 5 refine pl ?_
 refine listF_step rfl (fun K' hK => ?_); unfold opF; go_simp; refine (rgroup_any k a c al cl l v p _ hsl (Rd.oldB HR.out HB.out (by simp)) (Rd.oldB HRl.out HB.out (by simp)) hll).mono ?_; rintro e w9 ⟨ai, ci, aj, cj, rfl, hg2, hh2, hb10, fg2, fh2⟩; clear fg2 fh2; refine ⟨_, rfl, hK _ _ ?_⟩; clear hK K'; clear cb2_0 cb2_1 cb2_2 cb2_3 cb3_0 cb3_1 cb3_2; clear qb2 qb3; replace kb2 := kb2.at hb10; replace kb3 := kb3.at hb10; replace hg1 := Rd.at hg1 hb10; replace hh1 := Rd.at hh1 hb10; replace HB := hid (HB.out.below hb10); clear hb10; have qb2 := kb2.1; have qb3 := kb3.1
 iterate 7 refine pl ?_
 refine listF_abs (fun s11 hs' => ?_); replace sl5 := gs 5 hs' sl5; replace sl6 := gs 6 hs' sl6; replace sl7 := gs 7 hs' sl7; have sl8 := gu 8 hs'; have sl9 := gu 9 hs'; have sl10 := gu 10 hs'; clear hs' sl2 sl3; refine listF_nil ?_
 repeat ((fail_if_success refine stp ?_); with_reducible go_step)
 refine region_F ?_; refine pl ?_; refine pl ?_; refine listF_step rfl (fun K' hK => ?_); unfold opF; go_simp; refine (sameSpans_c hg1 hg2 (by have := Hg.out.1; omega)).mono ?_; rintro e w12 ⟨rfl, hb13⟩; refine ⟨_, rfl, hK _ _ ?_⟩; clear hK K'; clear qb2 qb3; replace kb2 := kb2.at hb13; replace kb3 := kb3.at hb13; replace hg1 := Rd.at hg1 hb13; replace hh1 := Rd.at hh1 hb13; replace hg2 := Rd.at hg2 hb13; replace hh2 := Rd.at hh2 hb13; replace HB := hid (HB.out.below hb13); clear hb13; have qb2 := kb2.1; have qb3 := kb3.1; refine pl ?_; refine py ?_; refine py ?_; refine listF_yes rfl rfl (by decide) ?_ (fun K' hK => ?_); (focus (go_simp; done)); unfold opF; go_simp; refine (sameInts_c hh1 hh2 (by have := Hg.out.2; omega)).mono ?_; rintro e w14 ⟨rfl, hb15⟩; refine ⟨_, rfl, hK _ _ ?_⟩; clear hK K'; clear qb2 qb3; replace kb2 := kb2.at hb15; replace kb3 := kb3.at hb15; replace hg1 := Rd.at hg1 hb15; replace hh1 := Rd.at hh1 hb15; replace hg2 := Rd.at hg2 hb15
 replace hh2 := Rd.at hh2 hb15; replace HB := hid (HB.out.below hb15); clear hb15; have qb2 := kb2.1; have qb3 := kb3.1; refine pl ?_; refine pl ?_
 iterate 3 refine py ?_
 refine pl ?_; refine pl ?_; refine listF_yes rfl rfl (by decide) ?_ (fun K' hK => ?_); (focus (go_simp; done)); unfold opF; go_simp; refine (awake_any _).mono ?_; rintro e w16 ⟨rfl, hb17⟩; refine ⟨_, rfl, hK _ _ ?_⟩; clear hK K'; clear qb2 qb3; replace kb2 := kb2.at hb17; replace kb3 := kb3.at hb17; replace hg1 := Rd.at hg1 hb17; replace hh1 := Rd.at hh1 hb17; replace hg2 := Rd.at hg2 hb17; replace hh2 := Rd.at hh2 hb17; replace HB := hid (HB.out.below hb17); clear hb17; have qb2 := kb2.1; have qb3 := kb3.1; refine pl ?_; refine pl ?_; refine listF_abs (fun s18 hs' => ?_); have sl4 := gu 4 hs'; clear hs' sl5 sl6 sl7 sl8 sl9 sl10; refine listF_nil ?_
 repeat ((fail_if_success refine stp ?_); with_reducible go_step)
 refine ret_F _ (res_t Try.results6 ((getD_F (by decide)).trans sl4)) ?_; exact ⟨rfl, HB.out.toBelow⟩

end Go.Proofs.Ytndcmmghgljinaa
