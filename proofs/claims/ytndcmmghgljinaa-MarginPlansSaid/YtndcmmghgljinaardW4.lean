/- The contracts of Check, open and Need. -/
import Derived.Test.YtndcmmghgljinaardW3
set_option linter.all false
namespace Go.Proofs.Ytndcmmghgljinaa

open Go.RowKit


theorem kdErr_1 {k : Kd} (h : ¬ (1 ≤ k.new ∧ k.new ≤ 1000000) ∨ ¬ (0 ≤ k.wear.lo ∧ k.wear.lo ≤ 1000) ∨ ¬ (0 ≤ k.wear.hi ∧ k.wear.hi ≤ 1000)) : kdErr k = 7 := by
  unfold kdErr; rw [if_pos]
  simp only [← inb_iff, Bool.not_eq_true] at h
  exact h
/-- ahead of the steps nothing is wrong -/
def kHead (k : Kd) : Prop := (1 ≤ k.new ∧ k.new ≤ 1000000) ∧ (0 ≤ k.wear.lo ∧ k.wear.lo ≤ 1000) ∧ (0 ≤ k.wear.hi ∧ k.wear.hi ≤ 1000)
theorem kdErr_2 {k : Kd} (h : kHead k) (h2 : k.wear.hi < k.wear.lo) : kdErr k = 2 := by
  unfold kdErr; rw [if_neg, if_pos h2]
  simp only [not_or, Bool.not_eq_false, inb_iff]
  exact h
theorem kdErr_3 {k : Kd} (h : kHead k) (h2 : ¬ k.wear.hi < k.wear.lo) (h3 : k.steps.length = 0 ∨ 8 < k.steps.length) : kdErr k = 3 := by
  unfold kdErr; rw [if_neg, if_neg h2, if_pos h3]
  simp only [not_or, Bool.not_eq_false, inb_iff]
  exact h
theorem kdErr_s {k : Kd} (h : kHead k) (h2 : ¬ k.wear.hi < k.wear.lo) (h3 : ¬ (k.steps.length = 0 ∨ 8 < k.steps.length)) {i : Nat} (hi : i < k.steps.length) (hp : ∀ j, j < i → stpErr k.steps j = 0) (he : stpErr k.steps i ≠ 0) : kdErr k = stpErr k.steps i := by
  unfold kdErr; rw [if_neg, if_neg h2, if_neg h3, firstErr_some hi hp he]
  simp only [not_or, Bool.not_eq_false, inb_iff]
  exact h
theorem kdErr_0 {k : Kd} (h : kHead k) (h2 : ¬ k.wear.hi < k.wear.lo) (h3 : ¬ (k.steps.length = 0 ∨ 8 < k.steps.length)) (hp : ∀ j, j < k.steps.length → stpErr k.steps j = 0) : kdErr k = 0 := by
  unfold kdErr; rw [if_neg, if_neg h2, if_neg h3, firstErr_none.2 hp]
  simp only [not_or, Bool.not_eq_false, inb_iff]
  exact h
def lastV (k : Kd) (i : Nat) : Int := if i = 0 then 1001 else (k.steps.getD (i - 1) Stp.zero).volt
def lastN (k : Kd) (i : Nat) : Int := if i = 0 then 0 else (k.steps.getD (i - 1) Stp.zero).need
theorem stp_7 {k : Kd} {i : Nat} (hi : i < k.steps.length) (h : ¬ (0 ≤ k.steps[i].volt ∧ k.steps[i].volt ≤ 1000) ∨ ¬ (0 ≤ k.steps[i].need ∧ k.steps[i].need ≤ 1000000)) : stpErr k.steps i = 7 := by
  unfold stpErr; rw [getD_get hi, if_pos]
  simp only [← inb_iff, Bool.not_eq_true] at h
  exact h
def stpIn (k : Kd) (i : Nat) : Prop := ∃ h : i < k.steps.length, (0 ≤ k.steps[i].volt ∧ k.steps[i].volt ≤ 1000) ∧ (0 ≤ k.steps[i].need ∧ k.steps[i].need ≤ 1000000)
theorem stp_eq {k : Kd} {i : Nat} (h : stpIn k i) : stpErr k.steps i = if (i = 0 ∧ (k.steps[i]'h.1).volt < 1000) ∨ lastV k i ≤ (k.steps[i]'h.1).volt ∨ (k.steps[i]'h.1).need < lastN k i then 2 else 0 := by
  obtain ⟨hi, h1, h2⟩ := h; unfold stpErr lastV lastN; rw [getD_get hi, if_neg (by simp only [not_or, Bool.not_eq_false, inb_iff]; exact ⟨h1, h2⟩)]
  by_cases h0 : i = 0
  · subst h0
    simp only [if_true, true_and, Nat.lt_irrefl, false_and, or_false]
    congr 1
    apply propext
    constructor
    · intro h; left; omega
    · rintro (h | h | h) <;> omega
  · simp only [h0, if_false, false_and, false_or, show 0 < i by omega, true_and]
theorem lastV_succ {k : Kd} {i : Nat} (hi : i < k.steps.length) : lastV k (i + 1) = k.steps[i].volt := by unfold lastV; rw [if_neg (by omega), Nat.add_sub_cancel, getD_get hi]
theorem lastN_succ {k : Kd} {i : Nat} (hi : i < k.steps.length) : lastN k (i + 1) = k.steps[i].need := by unfold lastN; rw [if_neg (by omega), Nat.add_sub_cancel, getD_get hi]
theorem out1 {hi x : Int} : outB hi [x] = (!inb x 0 hi) := by simp [outB]
theorem out2 {hi x y : Int} : outB hi [x, y] = (!inb x 0 hi || !inb y 0 hi) := by simp [outB]
theorem out1_f {hi x : Int} (h : outB hi [x] = false) : 0 ≤ x ∧ x ≤ hi := by rw [out1] at h; simpa [inb_iff] using h
theorem out1_t {hi x : Int} (h : outB hi [x] = true) : ¬ (0 ≤ x ∧ x ≤ hi) := by rw [out1] at h; rw [← inb_iff]; simpa using h
theorem out2_f {hi x y : Int} (h : outB hi [x, y] = false) : (0 ≤ x ∧ x ≤ hi) ∧ (0 ≤ y ∧ y ≤ hi) := by rw [out2] at h; simpa [inb_iff] using h
theorem out2_t {hi x y : Int} (h : outB hi [x, y] = true) : ¬ (0 ≤ x ∧ x ≤ hi) ∨ ¬ (0 ≤ y ∧ y ≤ hi) := by
  rw [out2] at h; rw [← inb_iff, ← inb_iff]; simpa using h
theorem wrap_new {n : Int} (h : -9223372036854775808 ≤ n ∧ n ≤ 9223372036854775807) : (0 ≤ IntKind.i64.wrap (n - 1) ∧ IntKind.i64.wrap (n - 1) ≤ 999999) ↔ (1 ≤ n ∧ n ≤ 1000000) := by
  rw [IntKind.wrap_i64]; omega

set_option maxRecDepth 100000 in
set_option maxHeartbeats 1000000 in
theorem kcheck_any (k : Kd) (a : Option Addr) (c : Nat) (w : World) (hN : -9223372036854775808 ≤ k.new ∧ k.new ≤ 9223372036854775807) (hsl : k.steps.length ≤ 9223372036854775807) (hR : RdSteps w a k.steps) :
    Calls Try.prog 20 #[.agg #[.int .i64 k.new, .int .i64 k.wear.lo, .int .i64 k.wear.hi, .slice a k.steps.length c]] w (fun e w' => e = .returned (.int .i64 (kdErr k)) ∧ Below w.heap.size w w') := by
 have HR := hid hR; have HN := hid hN; clear hR hN
 refine enter_F Try.func20 rfl Try.ntmps20 (by simp) ?_
 intro s0 hs; have sl0 : s0 0 = .agg #[.int .i64 k.new, .int .i64 k.wear.lo, .int .i64 k.wear.hi, .slice a k.steps.length c] := hs 0 (by simp); clear hs; have HB := hid (OldB.refl [] w)
 repeat ((fail_if_success refine stp ?_); with_reducible go_step)
 refine region_F ?_; refine pa (fun w1 B1 hB kb1' hb2 => ?_); have gb1 := HB.out.gB hB; have eb1 := eB hB; clear hB; replace HB := hid (HB.out.below hb2); clear hb2; have kb1 := kb1'; clear kb1'; have qb1 := kb1.1; refine pl ?_; refine listF_abs (fun s3 z' => ?_); have sl1 := gu 1 z'; clear z' sl0; refine listF_nil ?_
 repeat ((fail_if_success refine stp ?_); with_reducible go_step)
 refine region_F ?_; refine pl ?_; have cb1_0 := kb1.cell 0 rfl; have cb1_1 := kb1.cell 1 rfl; have cb1_2 := kb1.cell 2 rfl; have cb1_3 := kb1.cell 3 rfl; refine pl ?_; refine pl ?_; refine pas (fun w4 B10 hB kb10' hb5 => ?_); have gb10 := HB.out.gB hB; have ob1_b10 := oB qb1 hB; have eb10 := eB hB; clear hB; clear cb1_0 cb1_1 cb1_2 cb1_3; clear qb1; replace kb1 := kb1.at hb5; replace HB := hid (HB.out.below hb5); clear hb5; have qb1 := kb1.1; have kb10 := kb10'; clear kb10'; have qb10 := kb10.1; refine listF_step rfl (fun K' hK => ?_); unfold opF; go_simp; refine (out_any 999999 _ _ [IntKind.i64.wrap (k.new - 1)] _ (by simp) (rd1 kb10)).mono ?_; rintro e w6 ⟨rfl, hb7⟩; refine ⟨_, rfl, hK _ _ ?_⟩; clear hK K'; clear qb1 qb10; replace kb1 := kb1.at hb7; replace kb10 := kb10.at hb7; replace HB := hid (HB.out.below hb7); clear hb7; have qb1 := kb1.1; have qb10 := kb10.1; refine pl ?_; refine listF_abs (fun s8 z' => ?_); replace sl1 := gs 1 z' sl1; have sl12 := gu 12 z'; clear z'
 refine boolG sl12 (fun sl12' h12 => ?_) (fun sl12' h12 => ?_) <;> (clear sl12; have sl12 := sl12'; clear sl12')
 ·skip
  have e1 := out1_t h12; rw [wrap_new HN.out] at e1; have He := hid (kdErr_1 (.inl e1)); clear e1
  refine pn true ?_
  refine pn true ?_
  refine pn true ?_
  refine pn true ?_
  refine pn true ?_
  refine pn true ?_; refine pn true ?_; refine pn true ?_; refine pl ?_; refine pl ?_; refine listF_abs (fun s9 z' => ?_); replace sl1 := gs 1 z' sl1; have sl6 := gu 6 z'; clear z' sl12; refine listF_nil ?_
  repeat ((fail_if_success refine stp ?_); with_reducible go_step)
  refine cond_t ?_
  repeat ((fail_if_success refine stp ?_); with_reducible go_step)
  refine region_F ?_; refine pl ?_; refine listF_abs (fun s10 z' => ?_); have sl2 := gu 2 z'; clear z' sl1 sl6; refine listF_nil ?_
  repeat ((fail_if_success refine stp ?_); with_reducible go_step)
  refine ret_F _ (res_t Try.results20 ((getD_F (by decide)).trans sl2)) ?_; exact ⟨ret_int He.out.symm, HB.out.toBelow⟩
 ·skip
  have e1 := out1_f h12; rw [wrap_new HN.out] at e1; refine py ?_; refine py ?_; have cb1_0 := kb1.cell 0 rfl; have cb1_1 := kb1.cell 1 rfl; have cb1_2 := kb1.cell 2 rfl; have cb1_3 := kb1.cell 3 rfl
  iterate 4 refine py ?_
  refine pasy (fun w11 B19 hB kb19' hb12 => ?_); have gb19 := HB.out.gB hB; have ob1_b19 := oB qb1 hB; have ob10_b19 := oB qb10 hB; have eb19 := eB hB; clear hB; clear cb1_0 cb1_1 cb1_2 cb1_3; clear qb1 qb10; replace kb1 := kb1.at hb12; replace kb10 := kb10.at hb12; replace HB := hid (HB.out.below hb12); clear hb12; have qb1 := kb1.1; have qb10 := kb10.1; have kb19 := kb19'; clear kb19'; have qb19 := kb19.1; refine listF_yes rfl rfl (by decide) ?_ (fun K' hK => ?_); (focus (go_simp; done)); unfold opF; go_simp; refine (out_any 1000 _ _ [k.wear.lo, k.wear.hi] _ (by simp) (rd2 kb19)).mono ?_; rintro e w13 ⟨rfl, hb14⟩; refine ⟨_, rfl, hK _ _ ?_⟩; clear hK K'; clear qb1 qb10 qb19; replace kb1 := kb1.at hb14; replace kb10 := kb10.at hb14; replace kb19 := kb19.at hb14; replace HB := hid (HB.out.below hb14); clear hb14; have qb1 := kb1.1; have qb10 := kb10.1; have qb19 := kb19.1; refine pl ?_; refine pl ?_; refine listF_abs (fun s15 z' => ?_); replace sl1 := gs 1 z' sl1; have sl6 := gu 6 z'; clear z' sl12
  refine listF_nil ?_
  repeat ((fail_if_success refine stp ?_); with_reducible go_step)
  refine cond_E sl6 (by decide) ?_ ?_ <;> (clear sl6; intro h6 sl6)
  ·skip
   have He := hid (kdErr_1 (.inr (out2_t h6)))
   repeat ((fail_if_success refine stp ?_); with_reducible go_step)
   refine region_F ?_; refine pl ?_; refine listF_abs (fun s16 z' => ?_); have sl2 := gu 2 z'; clear z' sl1 sl6; refine listF_nil ?_
   repeat ((fail_if_success refine stp ?_); with_reducible go_step)
   refine ret_F _ (res_t Try.results20 ((getD_F (by decide)).trans sl2)) ?_; exact ⟨ret_int He.out.symm, HB.out.toBelow⟩
  ·skip
   have e2 := out2_f h6; have Hh := hid (show kHead k from ⟨e1, e2⟩); clear e2 h6 h12
   repeat ((fail_if_success refine stp ?_); with_reducible go_step)
   refine region_F ?_; refine pl ?_; refine pl ?_; have cb1_0 := kb1.cell 0 rfl; have cb1_1 := kb1.cell 1 rfl; have cb1_2 := kb1.cell 2 rfl; have cb1_3 := kb1.cell 3 rfl
   iterate 6 refine pl ?_
   refine listF_abs (fun s17 z' => ?_); replace sl1 := gs 1 z' sl1; have sl22 := gu 22 z'; clear z' sl6; refine listF_nil ?_
   repeat ((fail_if_success refine stp ?_); with_reducible go_step)
   refine cond_E sl22 (by decide) ?_ ?_ <;> (clear sl22; intro h22 sl22)
   ·skip
    have h22' : k.wear.hi < k.wear.lo := by simpa using h22
    have He := hid (kdErr_2 Hh.out h22')
    repeat ((fail_if_success refine stp ?_); with_reducible go_step)
    refine region_F ?_; refine pl ?_; refine listF_abs (fun s18 z' => ?_); have sl2 := gu 2 z'; clear z' sl1 sl22; refine listF_nil ?_
    repeat ((fail_if_success refine stp ?_); with_reducible go_step)
    refine ret_F _ (res_t Try.results20 ((getD_F (by decide)).trans sl2)) ?_; exact ⟨ret_int He.out.symm, HB.out.toBelow⟩
   ·skip
    have h22' : ¬ k.wear.hi < k.wear.lo := by simpa using h22
    have Hw := hid h22'; have wl : IntKind.i64.wrap ((k.steps.length : Int) - 1) = (k.steps.length : Int) - 1 := IntWalk.i64_in _ (by omega); have Hwl := hid wl; clear wl e1 h22 h22'
    repeat ((fail_if_success refine stp ?_); with_reducible go_step)
    refine region_F ?_
    iterate 4 refine pl ?_
    refine pas (fun w19 B35 hB kb35' hb20 => ?_); have gb35 := HB.out.gB hB; have ob1_b35 := oB qb1 hB; have ob10_b35 := oB qb10 hB; have ob19_b35 := oB qb19 hB; have eb35 := eB hB; clear hB; clear cb1_0 cb1_1 cb1_2 cb1_3; clear qb1 qb10 qb19; replace kb1 := kb1.at hb20; replace kb10 := kb10.at hb20; replace kb19 := kb19.at hb20; replace HB := hid (HB.out.below hb20); clear hb20; have qb1 := kb1.1; have qb10 := kb10.1; have qb19 := kb19.1; have kb35 := kb35'; clear kb35'; have qb35 := kb35.1; refine listF_step rfl (fun K' hK => ?_); unfold opF; go_simp; refine (out_any 7 _ _ [IntKind.i64.wrap ((k.steps.length : Int) - 1)] _ (by simp) (rd1 kb35)).mono ?_; rintro e w21 ⟨rfl, hb22⟩; refine ⟨_, rfl, hK _ _ ?_⟩; clear hK K'; clear qb1 qb10 qb19 qb35; replace kb1 := kb1.at hb22; replace kb10 := kb10.at hb22; replace kb19 := kb19.at hb22; replace kb35 := kb35.at hb22; replace HB := hid (HB.out.below hb22); clear hb22; have qb1 := kb1.1; have qb10 := kb10.1; have qb19 := kb19.1
    have qb35 := kb35.1; refine pl ?_; refine listF_abs (fun s23 z' => ?_); replace sl1 := gs 1 z' sl1; have sl30 := gu 30 z'; clear z' sl22; refine listF_nil ?_
    repeat ((fail_if_success refine stp ?_); with_reducible go_step)
    refine cond_E sl30 (by decide) ?_ ?_ <;> (clear sl30; intro h30 sl30)
    ·skip
     have h30' := out1_t h30; rw [Hwl.out] at h30'; have He := hid (kdErr_3 Hh.out Hw.out (by omega))
     repeat ((fail_if_success refine stp ?_); with_reducible go_step)
     refine region_F ?_; refine pl ?_; refine listF_abs (fun s24 z' => ?_); have sl2 := gu 2 z'; clear z' sl1 sl30; refine listF_nil ?_
     repeat ((fail_if_success refine stp ?_); with_reducible go_step)
     refine ret_F _ (res_t Try.results20 ((getD_F (by decide)).trans sl2)) ?_; exact ⟨ret_int He.out.symm, HB.out.toBelow⟩
    ·skip
     have h30' := out1_f h30; rw [Hwl.out] at h30'; have Hl := hid (show ¬ (k.steps.length = 0 ∨ 8 < k.steps.length) by omega)
     have hl8 : k.steps.length ≤ 8 := by omega
     clear h30 h30'
     repeat ((fail_if_success refine stp ?_); with_reducible go_step)
     refine region_F ?_; refine pl ?_; refine pa (fun w25 B3 hB kb3' hb26 => ?_); have gb3 := HB.out.gB hB; have ob1_b3 := oB qb1 hB; have ob10_b3 := oB qb10 hB; have ob19_b3 := oB qb19 hB; have ob35_b3 := oB qb35 hB; have eb3 := eB hB; clear hB; clear qb1 qb10 qb19 qb35; replace kb1 := kb1.at hb26; replace kb10 := kb10.at hb26; replace kb19 := kb19.at hb26; replace kb35 := kb35.at hb26; replace HB := hid (HB.out.below hb26); clear hb26; have qb1 := kb1.1; have qb10 := kb10.1; have qb19 := kb19.1; have qb35 := kb35.1; have kb3 := kb3'; clear kb3'; have qb3 := kb3.1; have cb3_0 := kb3.cell 0 rfl; have cb3_1 := kb3.cell 1 rfl; have zb3 := kb3.2.2; refine pl ?_; refine listF_absw (fun w27 hw' => ?_); have kb3' := cells_of hw' (Cells.set (i := 1) (Cells.set (i := 0) (kb3)))
     (try simp only [vC, List.set_cons_zero, List.set_cons_succ] at kb3')
     have hb28 : OldB [B3] w25 w27 := oldset hw'; clear hw'; clear cb3_0 cb3_1 zb3; clear qb1 qb10 qb19 qb35 qb3; replace kb3 := kb3'; replace kb1 := kb1.oldB hb28 (by first | (simp; done) | (simp; omega)); replace kb10 := kb10.oldB hb28 (by first | (simp; done) | (simp; omega)); replace kb19 := kb19.oldB hb28 (by first | (simp; done) | (simp; omega)); replace kb35 := kb35.oldB hb28 (by first | (simp; done) | (simp; omega)); replace HB := hid (HB.out.more hb28 (by simp; try omega)); clear hb28; have qb1 := kb1.1; have qb10 := kb10.1; have qb19 := kb19.1; have qb35 := kb35.1; have qb3 := kb3.1; clear kb3'; refine listF_abs (fun s29 z' => ?_); replace sl1 := gs 1 z' sl1; have sl3 := gu 3 z'; clear z' sl30; refine listF_nil ?_
     repeat ((fail_if_success refine stp ?_); with_reducible go_step)
     refine region_F ?_; refine pl ?_; have cb1_0 := kb1.cell 0 rfl; have cb1_1 := kb1.cell 1 rfl; have cb1_2 := kb1.cell 2 rfl; have cb1_3 := kb1.cell 3 rfl
     iterate 3 refine pl ?_
     refine listF_abs (fun s30 z' => ?_); replace sl3 := gs 3 z' sl3; have sl39 := gu 39 z'; have sl40 := gu 40 z'; have sl41 := gu 41 z'; clear z' sl1; refine listF_nil ?_
     repeat ((fail_if_success refine stp ?_); with_reducible go_step)
     clear cb1_0 cb1_1 cb1_2 cb1_3; have hc0_3 := hid sl3; have hc0_39 := hid sl39; have hc0_40 := hid sl40; refine loop_F (n := 81) (fun kJ sJ wJ => ∃ (i : Nat), kJ = k.steps.length - i ∧ sJ 41 = .int .i64 (i : Int) ∧ sJ 3 = s30 3 ∧ sJ 39 = s30 39 ∧ sJ 40 = s30 40 ∧ OldB [B3] w27 wJ ∧ Cells wJ B3 [.int .i64 (lastV k i), .int .i64 (lastN k i)] ∧ (Hid (∀ j, j < i → stpErr k.steps j = 0)) ∧ i ≤ k.steps.length) ⟨0, rfl, (by first | exact sl41 | (rw [sl41]; go_num) | (rw [sl41]; rfl)), rfl, rfl, rfl, OldB.refl _ _, (by first | (with_reducible exact kb3) | (apply Cells.conv; (focus (exact kb3)); (first | rfl | (simp; done)))), hid (fun j hj => by omega), Nat.zero_le _⟩ ?_; clear sl41; rintro kJ s31 w32 ⟨i, rfl, sl41, e3, e39, e40, hb33, mb3', hp, hle⟩; replace sl3 := e3.trans sl3; clear e3; replace sl39 := e39.trans sl39; clear e39; replace sl40 := e40.trans sl40; clear e40; have hoJ := hb33; clear qb1 qb10 qb19 qb35 qb3
     replace kb3 := mb3'; replace kb1 := kb1.oldB hb33 (by first | (simp; done) | (simp; omega)); replace kb10 := kb10.oldB hb33 (by first | (simp; done) | (simp; omega)); replace kb19 := kb19.oldB hb33 (by first | (simp; done) | (simp; omega)); replace kb35 := kb35.oldB hb33 (by first | (simp; done) | (simp; omega)); replace HB := hid (HB.out.more hb33 (by simp; try omega)); clear hb33; have qb1 := kb1.1; have qb10 := kb10.1; have qb19 := kb19.1; have qb35 := kb35.1; have qb3 := kb3.1; clear mb3'; have HoJ := hid hoJ; clear hoJ; have HL34 := HoJ; clear HoJ
     repeat ((fail_if_success refine stp ?_); with_reducible go_step)
     refine region_F ?_; refine pl ?_; refine listF_abs (fun s35 z' => ?_); replace sl3 := gs 3 z' sl3; replace sl39 := gs 39 z' sl39; replace sl40 := gs 40 z' sl40; replace sl41 := gs 41 z' sl41; have sl42 := gu 42 z'; clear z'; refine listF_nil ?_
     repeat ((fail_if_success refine stp ?_); with_reducible go_step)
     refine cond_E sl42 (by decide) ?_ ?_ <;> (clear sl42; intro h42 sl42)
     ·skip
      have hlt : i < k.steps.length := by simpa using h42
      obtain ⟨b, off, rfl, hbs, c0, c1⟩ := RdSteps.ne (Rd.oldB HR.out HB.out (by simp)) hlt
      repeat ((fail_if_success refine stp ?_); with_reducible go_step)
      refine region_F ?_
      iterate 3 refine pl ?_
      refine pa (fun w36 B5 hB kb5' hb37 => ?_); have gb5 := HB.out.gB hB; have lHL34_b5 := HL34.out.gB hB; have ob1_b5 := oB qb1 hB; have ob10_b5 := oB qb10 hB; have ob19_b5 := oB qb19 hB; have ob35_b5 := oB qb35 hB; have ob3_b5 := oB qb3 hB; have eb5 := eB hB; clear hB; clear qb1 qb10 qb19 qb35 qb3; replace kb1 := kb1.at hb37; replace kb10 := kb10.at hb37; replace kb19 := kb19.at hb37; replace kb35 := kb35.at hb37; replace kb3 := kb3.at hb37; replace HL34 := hid (HL34.out.below hb37); replace HB := hid (HB.out.below hb37); clear hb37; have qb1 := kb1.1; have qb10 := kb10.1; have qb19 := kb19.1; have qb35 := kb35.1; have qb3 := kb3.1; have kb5 := kb5'; clear kb5'; have qb5 := kb5.1; refine pl ?_; have cb5_0 := kb5.cell 0 rfl; have cb5_1 := kb5.cell 1 rfl; have zb5 := kb5.2.2; refine pl ?_; refine listF_absw (fun w38 hw' => ?_); have kb5' := cells_of hw' (Cells.set (i := 1) (Cells.set (i := 0) (kb5)))
      (try simp only [vC, List.set_cons_zero, List.set_cons_succ] at kb5')
      have hb39 : OldB [B5] w36 w38 := oldset hw'; clear hw'; clear cb5_0 cb5_1 zb5; clear qb1 qb10 qb19 qb35 qb3 qb5; replace kb5 := kb5'; replace kb1 := kb1.oldB hb39 (by first | (simp; done) | (simp; omega)); replace kb10 := kb10.oldB hb39 (by first | (simp; done) | (simp; omega)); replace kb19 := kb19.oldB hb39 (by first | (simp; done) | (simp; omega)); replace kb35 := kb35.oldB hb39 (by first | (simp; done) | (simp; omega)); replace kb3 := kb3.oldB hb39 (by first | (simp; done) | (simp; omega)); replace HL34 := hid (HL34.out.more hb39 (by simp; try omega)); replace HB := hid (HB.out.more hb39 (by simp; try omega)); clear hb39; have qb1 := kb1.1; have qb10 := kb10.1; have qb19 := kb19.1; have qb35 := kb35.1; have qb3 := kb3.1; have qb5 := kb5.1; clear kb5'; refine listF_abs (fun s40 z' => ?_); replace sl3 := gs 3 z' sl3; have sl4 := gu 4 z'; have sl5 := gu 5 z'; replace sl39 := gs 39 z' sl39; replace sl40 := gs 40 z' sl40; replace sl41 := gs 41 z' sl41
      clear z' sl42; refine listF_nil ?_
      repeat ((fail_if_success refine stp ?_); with_reducible go_step)
      refine region_F ?_; refine pl ?_; have cb5_0 := kb5.cell 0 rfl; have cb5_1 := kb5.cell 1 rfl; refine pl ?_; refine pas (fun w41 B49 hB kb49' hb42 => ?_); have gb49 := HB.out.gB hB; have lHL34_b49 := HL34.out.gB hB; have ob1_b49 := oB qb1 hB; have ob10_b49 := oB qb10 hB; have ob19_b49 := oB qb19 hB; have ob35_b49 := oB qb35 hB; have ob3_b49 := oB qb3 hB; have ob5_b49 := oB qb5 hB; have eb49 := eB hB; clear hB; clear cb5_0 cb5_1; clear qb1 qb10 qb19 qb35 qb3 qb5; replace kb1 := kb1.at hb42; replace kb10 := kb10.at hb42; replace kb19 := kb19.at hb42; replace kb35 := kb35.at hb42; replace kb3 := kb3.at hb42; replace kb5 := kb5.at hb42; replace HL34 := hid (HL34.out.below hb42); replace HB := hid (HB.out.below hb42); clear hb42; have qb1 := kb1.1; have qb10 := kb10.1; have qb19 := kb19.1; have qb35 := kb35.1; have qb3 := kb3.1; have qb5 := kb5.1; have kb49 := kb49'; clear kb49'; have qb49 := kb49.1; refine listF_step rfl (fun K' hK => ?_); unfold opF; go_simp; refine (out_any 1000 _ _ [k.steps[i].volt] _ (by simp) (rd1 kb49)).mono ?_; rintro e w43 ⟨rfl, hb44⟩
      refine ⟨_, rfl, hK _ _ ?_⟩; clear hK K'; clear qb1 qb10 qb19 qb35 qb3 qb5 qb49; replace kb1 := kb1.at hb44; replace kb10 := kb10.at hb44; replace kb19 := kb19.at hb44; replace kb35 := kb35.at hb44; replace kb3 := kb3.at hb44; replace kb5 := kb5.at hb44; replace kb49 := kb49.at hb44; replace HL34 := hid (HL34.out.below hb44); replace HB := hid (HB.out.below hb44); clear hb44; have qb1 := kb1.1; have qb10 := kb10.1; have qb19 := kb19.1; have qb35 := kb35.1; have qb3 := kb3.1; have qb5 := kb5.1; have qb49 := kb49.1; refine pl ?_; refine listF_abs (fun s45 z' => ?_); replace sl3 := gs 3 z' sl3; replace sl4 := gs 4 z' sl4; replace sl5 := gs 5 z' sl5; replace sl39 := gs 39 z' sl39; replace sl40 := gs 40 z' sl40; replace sl41 := gs 41 z' sl41; have sl51 := gu 51 z'; clear z'
      refine boolG sl51 (fun sl51' h51 => ?_) (fun sl51' h51 => ?_) <;> (clear sl51; have sl51 := sl51'; clear sl51')
      ·skip
       have He := hid (kdErr_s Hh.out Hw.out Hl.out hlt hp.out (by rw [stp_7 hlt (.inl (out1_t h51))]; decide)); rw [stp_7 hlt (.inl (out1_t h51))] at He
       refine pn true ?_
       refine pn true ?_; refine pn true ?_; refine pn true ?_; refine pl ?_; refine pl ?_; refine listF_abs (fun s46 z' => ?_); replace sl3 := gs 3 z' sl3; replace sl4 := gs 4 z' sl4; replace sl5 := gs 5 z' sl5; replace sl39 := gs 39 z' sl39; replace sl40 := gs 40 z' sl40; replace sl41 := gs 41 z' sl41; have sl46 := gu 46 z'; clear z' sl51; refine listF_nil ?_
       repeat ((fail_if_success refine stp ?_); with_reducible go_step)
       refine cond_t ?_
       repeat ((fail_if_success refine stp ?_); with_reducible go_step)
       refine region_F ?_; refine pl ?_; refine listF_abs (fun s47 z' => ?_); have sl2 := gu 2 z'; clear z' sl3 sl4 sl5 sl39 sl40 sl41 sl46; refine listF_nil ?_
       repeat ((fail_if_success refine stp ?_); with_reducible go_step)
       refine ret_F _ (res_t Try.results20 ((getD_F (by decide)).trans sl2)) ?_; exact ⟨ret_int He.out.symm, HB.out.toBelow⟩
      ·skip
       have e3 := out1_f h51; refine py ?_; have cb5_0 := kb5.cell 0 rfl; have cb5_1 := kb5.cell 1 rfl; refine py ?_; refine pasy (fun w48 B54 hB kb54' hb49 => ?_); have gb54 := HB.out.gB hB; have lHL34_b54 := HL34.out.gB hB; have ob1_b54 := oB qb1 hB; have ob10_b54 := oB qb10 hB; have ob19_b54 := oB qb19 hB; have ob35_b54 := oB qb35 hB; have ob3_b54 := oB qb3 hB; have ob5_b54 := oB qb5 hB; have ob49_b54 := oB qb49 hB; have eb54 := eB hB; clear hB; clear cb5_0 cb5_1; clear qb1 qb10 qb19 qb35 qb3 qb5 qb49; replace kb1 := kb1.at hb49; replace kb10 := kb10.at hb49; replace kb19 := kb19.at hb49; replace kb35 := kb35.at hb49; replace kb3 := kb3.at hb49; replace kb5 := kb5.at hb49; replace kb49 := kb49.at hb49; replace HL34 := hid (HL34.out.below hb49); replace HB := hid (HB.out.below hb49); clear hb49; have qb1 := kb1.1; have qb10 := kb10.1; have qb19 := kb19.1; have qb35 := kb35.1; have qb3 := kb3.1; have qb5 := kb5.1; have qb49 := kb49.1; have kb54 := kb54'; clear kb54'
       have qb54 := kb54.1; refine listF_yes rfl rfl (by decide) ?_ (fun K' hK => ?_); (focus (go_simp; done)); unfold opF; go_simp; refine (out_any 1000000 _ _ [k.steps[i].need] _ (by simp) (rd1 kb54)).mono ?_; rintro e w50 ⟨rfl, hb51⟩; refine ⟨_, rfl, hK _ _ ?_⟩; clear hK K'; clear qb1 qb10 qb19 qb35 qb3 qb5 qb49 qb54; replace kb1 := kb1.at hb51; replace kb10 := kb10.at hb51; replace kb19 := kb19.at hb51; replace kb35 := kb35.at hb51; replace kb3 := kb3.at hb51; replace kb5 := kb5.at hb51; replace kb49 := kb49.at hb51; replace kb54 := kb54.at hb51; replace HL34 := hid (HL34.out.below hb51); replace HB := hid (HB.out.below hb51); clear hb51; have qb1 := kb1.1; have qb10 := kb10.1; have qb19 := kb19.1; have qb35 := kb35.1; have qb3 := kb3.1; have qb5 := kb5.1; have qb49 := kb49.1; have qb54 := kb54.1; refine pl ?_; refine pl ?_; refine listF_abs (fun s52 z' => ?_); replace sl3 := gs 3 z' sl3; replace sl4 := gs 4 z' sl4; replace sl5 := gs 5 z' sl5; replace sl39 := gs 39 z' sl39; replace sl40 := gs 40 z' sl40; replace sl41 := gs 41 z' sl41
       have sl46 := gu 46 z'; have sl52 := gu 52 z'; have sl53 := gu 53 z'; have sl54 := gu 54 z'; have sl55 := gu 55 z'; clear z' sl51; refine listF_nil ?_
       repeat ((fail_if_success refine stp ?_); with_reducible go_step)
       refine cond_E sl46 (by decide) ?_ ?_ <;> (clear sl46; intro h46 sl46)
       ·skip
        have e7 := stp_7 hlt (.inr (out1_t h46)); have He := hid (kdErr_s Hh.out Hw.out Hl.out hlt hp.out (by rw [e7]; decide)); rw [e7] at He; clear e7
        repeat ((fail_if_success refine stp ?_); with_reducible go_step)
        refine region_F ?_; refine pl ?_; refine listF_abs (fun s53 z' => ?_); have sl2 := gu 2 z'; clear z' sl3 sl4 sl5 sl39 sl40 sl41 sl46 sl52 sl53 sl54 sl55; refine listF_nil ?_
        repeat ((fail_if_success refine stp ?_); with_reducible go_step)
        refine ret_F _ (res_t Try.results20 ((getD_F (by decide)).trans sl2)) ?_; exact ⟨ret_int He.out.symm, HB.out.toBelow⟩
       ·skip
        have e4 := out1_f h46; have Hin := hid (show stpIn k i from ⟨hlt, e3, e4⟩); clear e3 e4 h51 h46
        repeat ((fail_if_success refine stp ?_); with_reducible go_step)
        refine region_F ?_
        iterate 3 refine pl ?_
        refine listF_abs (fun s54 z' => ?_); replace sl3 := gs 3 z' sl3; replace sl5 := gs 5 z' sl5; replace sl39 := gs 39 z' sl39; replace sl40 := gs 40 z' sl40; replace sl41 := gs 41 z' sl41; replace sl52 := gs 52 z' sl52; replace sl53 := gs 53 z' sl53; replace sl54 := gs 54 z' sl54; replace sl55 := gs 55 z' sl55; have sl60 := gu 60 z'; clear z' sl4 sl46
        refine boolG sl60 (fun sl60' h60 => ?_) (fun sl60' h60 => ?_) <;> (clear sl60; have sl60 := sl60'; clear sl60')
        ·skip
         have H60 := hid (show i = 0 by simpa using h60); refine py ?_; have cb5_0 := kb5.cell 0 rfl; have cb5_1 := kb5.cell 1 rfl; refine py ?_; refine py ?_; refine pl ?_; refine pl ?_; refine listF_abs (fun s55 z' => ?_); replace sl3 := gs 3 z' sl3; replace sl5 := gs 5 z' sl5; replace sl39 := gs 39 z' sl39; replace sl40 := gs 40 z' sl40; replace sl41 := gs 41 z' sl41; replace sl52 := gs 52 z' sl52; replace sl53 := gs 53 z' sl53; replace sl54 := gs 54 z' sl54; replace sl55 := gs 55 z' sl55; have sl61 := gu 61 z'; have sl62 := gu 62 z'; have sl63 := gu 63 z'; have sl65 := gu 65 z'; clear z' sl60
         refine boolG sl65 (fun sl65' h65 => ?_) (fun sl65' h65 => ?_) <;> (clear sl65; have sl65 := sl65'; clear sl65')
         ·skip
          have h65' : k.steps[i].volt < 1000 := by simpa using h65
          refine pn true ?_
          refine pn true ?_
          refine pn true ?_; refine pn true ?_; refine pn true ?_; refine pl ?_; refine pl ?_
          refine pn true ?_
          refine pn true ?_
          refine pn true ?_; refine pn true ?_; refine pn true ?_; refine pl ?_; refine pl ?_; refine listF_abs (fun s56 z' => ?_); replace sl3 := gs 3 z' sl3; replace sl5 := gs 5 z' sl5; replace sl39 := gs 39 z' sl39; replace sl40 := gs 40 z' sl40; replace sl41 := gs 41 z' sl41; replace sl52 := gs 52 z' sl52; replace sl53 := gs 53 z' sl53; replace sl54 := gs 54 z' sl54; replace sl55 := gs 55 z' sl55; have sl57 := gu 57 z'; replace sl61 := gs 61 z' sl61; replace sl62 := gs 62 z' sl62; replace sl63 := gs 63 z' sl63; clear z' sl65; refine listF_nil ?_
          repeat ((fail_if_success refine stp ?_); with_reducible go_step)
          refine cond_t ?_
          repeat ((fail_if_success refine stp ?_); with_reducible go_step)
          refine region_F ?_; have Hz := hid (show stpErr k.steps i = 2 by rw [stp_eq Hin.out]; exact if_pos (by first | exact .inl ⟨H60.out, h65'⟩ | exact .inr (.inl h72') | exact .inr (.inr h57'))); have He := hid (kdErr_s Hh.out Hw.out Hl.out hlt hp.out (by rw [Hz.out]; decide)); rw [Hz.out] at He; refine pl ?_; refine listF_abs (fun s57 z' => ?_); have sl2 := gu 2 z'; clear z' sl3 sl5 sl39 sl40 sl41 sl52 sl53 sl54 sl55 sl57 sl61 sl62 sl63; refine listF_nil ?_
          repeat ((fail_if_success refine stp ?_); with_reducible go_step)
          refine ret_F _ (res_t Try.results20 ((getD_F (by decide)).trans sl2)) ?_; exact ⟨ret_int He.out.symm, HB.out.toBelow⟩
         ·skip
          have h65' : ¬ k.steps[i].volt < 1000 := by simpa using h65
          iterate 3 refine py ?_
          have cb3_0 := kb3.cell 0 rfl; have cb3_1 := kb3.cell 1 rfl; refine py ?_; refine py ?_; refine pl ?_; refine pl ?_; refine listF_abs (fun s58 z' => ?_); replace sl3 := gs 3 z' sl3; replace sl5 := gs 5 z' sl5; replace sl39 := gs 39 z' sl39; replace sl40 := gs 40 z' sl40; replace sl41 := gs 41 z' sl41; replace sl52 := gs 52 z' sl52; replace sl53 := gs 53 z' sl53; replace sl54 := gs 54 z' sl54; replace sl55 := gs 55 z' sl55; replace sl61 := gs 61 z' sl61; replace sl62 := gs 62 z' sl62; replace sl63 := gs 63 z' sl63; have sl66 := gu 66 z'; have sl67 := gu 67 z'; have sl68 := gu 68 z'; have sl69 := gu 69 z'; have sl70 := gu 70 z'; have sl72 := gu 72 z'; clear z' sl65
          refine boolG sl72 (fun sl72' h72 => ?_) (fun sl72' h72 => ?_) <;> (clear sl72; have sl72 := sl72'; clear sl72')
          ·skip
           have h72' : lastV k i ≤ k.steps[i].volt := by simpa using h72
           refine pn true ?_
           refine pn true ?_
           refine pn true ?_; refine pn true ?_; refine pn true ?_; refine pl ?_; refine pl ?_; refine listF_abs (fun s59 z' => ?_); replace sl3 := gs 3 z' sl3; replace sl5 := gs 5 z' sl5; replace sl39 := gs 39 z' sl39; replace sl40 := gs 40 z' sl40; replace sl41 := gs 41 z' sl41; replace sl52 := gs 52 z' sl52; replace sl53 := gs 53 z' sl53; replace sl54 := gs 54 z' sl54; replace sl55 := gs 55 z' sl55; have sl57 := gu 57 z'; replace sl61 := gs 61 z' sl61; replace sl62 := gs 62 z' sl62; replace sl63 := gs 63 z' sl63; replace sl66 := gs 66 z' sl66; replace sl67 := gs 67 z' sl67; replace sl68 := gs 68 z' sl68; replace sl69 := gs 69 z' sl69; replace sl70 := gs 70 z' sl70; clear z' sl72; refine listF_nil ?_
           repeat ((fail_if_success refine stp ?_); with_reducible go_step)
           refine cond_t ?_
           repeat ((fail_if_success refine stp ?_); with_reducible go_step)
           refine region_F ?_; have Hz := hid (show stpErr k.steps i = 2 by rw [stp_eq Hin.out]; exact if_pos (by first | exact .inl ⟨H60.out, h65'⟩ | exact .inr (.inl h72') | exact .inr (.inr h57'))); have He := hid (kdErr_s Hh.out Hw.out Hl.out hlt hp.out (by rw [Hz.out]; decide)); rw [Hz.out] at He; refine pl ?_; refine listF_abs (fun s60 z' => ?_); have sl2 := gu 2 z'; clear z' sl3 sl5 sl39 sl40 sl41 sl52 sl53 sl54 sl55 sl57 sl61 sl62 sl63 sl66 sl67 sl68 sl69 sl70; refine listF_nil ?_
           repeat ((fail_if_success refine stp ?_); with_reducible go_step)
           refine ret_F _ (res_t Try.results20 ((getD_F (by decide)).trans sl2)) ?_; exact ⟨ret_int He.out.symm, HB.out.toBelow⟩
          ·skip
           have h72' : ¬ lastV k i ≤ k.steps[i].volt := by simpa using h72
           iterate 5 refine py ?_
           refine pl ?_; refine pl ?_; refine listF_abs (fun s61 z' => ?_); replace sl3 := gs 3 z' sl3; replace sl5 := gs 5 z' sl5; replace sl39 := gs 39 z' sl39; replace sl40 := gs 40 z' sl40; replace sl41 := gs 41 z' sl41; replace sl52 := gs 52 z' sl52; replace sl53 := gs 53 z' sl53; replace sl54 := gs 54 z' sl54; replace sl55 := gs 55 z' sl55; have sl57 := gu 57 z'; replace sl61 := gs 61 z' sl61; replace sl62 := gs 62 z' sl62; replace sl63 := gs 63 z' sl63; replace sl66 := gs 66 z' sl66; replace sl67 := gs 67 z' sl67; replace sl68 := gs 68 z' sl68; replace sl69 := gs 69 z' sl69; replace sl70 := gs 70 z' sl70; have sl73 := gu 73 z'; have sl74 := gu 74 z'; have sl75 := gu 75 z'; have sl76 := gu 76 z'; have sl77 := gu 77 z'; clear z' sl72; refine listF_nil ?_
           repeat ((fail_if_success refine stp ?_); with_reducible go_step)
           refine cond_E sl57 (by decide) ?_ ?_ <;> (clear sl57; intro h57 sl57)
           ·skip
            have h57' : k.steps[i].need < lastN k i := by simpa using h57
            have Hz := hid (show stpErr k.steps i = 2 by rw [stp_eq Hin.out]; exact if_pos (by first | exact .inl ⟨H60.out, h65'⟩ | exact .inr (.inl h72') | exact .inr (.inr h57'))); have He := hid (kdErr_s Hh.out Hw.out Hl.out hlt hp.out (by rw [Hz.out]; decide)); rw [Hz.out] at He
            repeat ((fail_if_success refine stp ?_); with_reducible go_step)
            refine region_F ?_; refine pl ?_; refine listF_abs (fun s62 z' => ?_); have sl2 := gu 2 z'; clear z' sl3 sl5 sl39 sl40 sl41 sl52 sl53 sl54 sl55 sl57 sl61 sl62 sl63 sl66 sl67 sl68 sl69 sl70 sl73 sl74 sl75 sl76 sl77; refine listF_nil ?_
            repeat ((fail_if_success refine stp ?_); with_reducible go_step)
            refine ret_F _ (res_t Try.results20 ((getD_F (by decide)).trans sl2)) ?_; exact ⟨ret_int He.out.symm, HB.out.toBelow⟩
           ·skip
            have h57' : ¬ k.steps[i].need < lastN k i := by simpa using h57
            have Hz := hid (show stpErr k.steps i = 0 by rw [stp_eq Hin.out]; exact if_neg (by intro h; rcases h with ⟨h1, h2⟩ | h | h <;> first | exact h60' h1 | exact h65' h2 | exact h72' h | exact h57' h))
            repeat ((fail_if_success refine stp ?_); with_reducible go_step)
            refine region_F ?_; refine pl ?_; have zb3 := kb3.2.2; refine pl ?_; refine listF_absw (fun w63 hw' => ?_); have kb3' := cells_of hw' (Cells.set (i := 1) (Cells.set (i := 0) (kb3)))
            (try simp only [vC, List.set_cons_zero, List.set_cons_succ] at kb3')
            have hb64 : OldB [B3] w50 w63 := oldset hw'; clear hw'; clear cb3_0 cb3_1 cb5_0 cb5_1 zb3; clear qb1 qb10 qb19 qb35 qb3 qb5 qb49 qb54; replace kb3 := kb3'; replace kb1 := kb1.oldB hb64 (by first | (simp; done) | (simp; omega)); replace kb10 := kb10.oldB hb64 (by first | (simp; done) | (simp; omega)); replace kb19 := kb19.oldB hb64 (by first | (simp; done) | (simp; omega)); replace kb35 := kb35.oldB hb64 (by first | (simp; done) | (simp; omega)); replace kb5 := kb5.oldB hb64 (by first | (simp; done) | (simp; omega)); replace kb49 := kb49.oldB hb64 (by first | (simp; done) | (simp; omega)); replace kb54 := kb54.oldB hb64 (by first | (simp; done) | (simp; omega)); replace HL34 := hid (HL34.out.more hb64 (by simp; try omega)); replace HB := hid (HB.out.more hb64 (by simp; try omega)); clear hb64; have qb1 := kb1.1; have qb10 := kb10.1; have qb19 := kb19.1; have qb35 := kb35.1; have qb3 := kb3.1; have qb5 := kb5.1; have qb49 := kb49.1
            have qb54 := kb54.1; clear kb3'; refine listF_abs (fun s65 z' => ?_); replace sl3 := gs 3 z' sl3; replace sl39 := gs 39 z' sl39; replace sl40 := gs 40 z' sl40; replace sl41 := gs 41 z' sl41; replace sl52 := gs 52 z' sl52; replace sl53 := gs 53 z' sl53; replace sl54 := gs 54 z' sl54; replace sl55 := gs 55 z' sl55; replace sl61 := gs 61 z' sl61; replace sl62 := gs 62 z' sl62; replace sl63 := gs 63 z' sl63; replace sl66 := gs 66 z' sl66; replace sl67 := gs 67 z' sl67; replace sl68 := gs 68 z' sl68; replace sl69 := gs 69 z' sl69; replace sl70 := gs 70 z' sl70; replace sl73 := gs 73 z' sl73; replace sl74 := gs 74 z' sl74; replace sl75 := gs 75 z' sl75; replace sl76 := gs 76 z' sl76; replace sl77 := gs 77 z' sl77; clear z' sl5 sl57; refine listF_nil ?_
            repeat ((fail_if_success refine stp ?_); with_reducible go_step)
            refine region_F ?_; refine pl ?_; refine pl ?_; refine listF_abs (fun s66 z' => ?_); replace sl3 := gs 3 z' sl3; replace sl39 := gs 39 z' sl39; replace sl40 := gs 40 z' sl40; replace sl41 := gu 41 z'; replace sl52 := gs 52 z' sl52; replace sl53 := gs 53 z' sl53; replace sl54 := gs 54 z' sl54; replace sl55 := gs 55 z' sl55; replace sl61 := gs 61 z' sl61; replace sl62 := gs 62 z' sl62; replace sl63 := gs 63 z' sl63; replace sl66 := gs 66 z' sl66; replace sl67 := gs 67 z' sl67; replace sl68 := gs 68 z' sl68; replace sl69 := gs 69 z' sl69; replace sl70 := gs 70 z' sl70; replace sl73 := gs 73 z' sl73; replace sl74 := gs 74 z' sl74; replace sl75 := gs 75 z' sl75; replace sl76 := gs 76 z' sl76; replace sl77 := gs 77 z' sl77; clear z'; refine listF_nil ?_
            repeat ((fail_if_success refine stp ?_); with_reducible go_step)
            refine ⟨_, _, rfl, ?_, i + 1, rfl, (by first | (with_reducible exact sl41) | (rw [sl41]; (with_reducible go_num); done) | (rw [sl41, IntWalk.i64_in] <;> first | ((with_reducible go_num); done) | omega) | (rw [sl41]; go_num; done) | (rw [sl41]; simp; done) | (rw [sl41]; simp; omega)), (sl3.trans hc0_3.out.symm), (sl39.trans hc0_39.out.symm), (sl40.trans hc0_40.out.symm), HL34.out, (by rw [lastV_succ hlt, lastN_succ hlt]; exact kb3), hid (fun j hj => by rcases Nat.lt_or_ge j i with h | h <;> first | exact hp.out j h | (have e : j = i := (by omega); rw [e]; exact Hz.out)), by omega⟩
            omega
        ·skip
         have h60' : ¬ i = 0 := by simpa using h60
         refine pn false ?_; refine pn false ?_; refine pn false ?_; refine pl ?_; refine pl ?_; refine py ?_; have cb5_0 := kb5.cell 0 rfl; have cb5_1 := kb5.cell 1 rfl; refine py ?_; refine py ?_; have cb3_0 := kb3.cell 0 rfl; have cb3_1 := kb3.cell 1 rfl; refine py ?_; refine py ?_; refine pl ?_; refine pl ?_; refine listF_abs (fun s67 z' => ?_); replace sl3 := gs 3 z' sl3; replace sl5 := gs 5 z' sl5; replace sl39 := gs 39 z' sl39; replace sl40 := gs 40 z' sl40; replace sl41 := gs 41 z' sl41; replace sl52 := gs 52 z' sl52; replace sl53 := gs 53 z' sl53; replace sl54 := gs 54 z' sl54; replace sl55 := gs 55 z' sl55; have sl66 := gu 66 z'; have sl67 := gu 67 z'; have sl68 := gu 68 z'; have sl69 := gu 69 z'; have sl70 := gu 70 z'; have sl72 := gu 72 z'; clear z' sl60
         refine boolG sl72 (fun sl72' h72 => ?_) (fun sl72' h72 => ?_) <;> (clear sl72; have sl72 := sl72'; clear sl72')
         ·skip
          have h72' : lastV k i ≤ k.steps[i].volt := by simpa using h72
          refine pn true ?_
          refine pn true ?_
          refine pn true ?_; refine pn true ?_; refine pn true ?_; refine pl ?_; refine pl ?_; refine listF_abs (fun s68 z' => ?_); replace sl3 := gs 3 z' sl3; replace sl5 := gs 5 z' sl5; replace sl39 := gs 39 z' sl39; replace sl40 := gs 40 z' sl40; replace sl41 := gs 41 z' sl41; replace sl52 := gs 52 z' sl52; replace sl53 := gs 53 z' sl53; replace sl54 := gs 54 z' sl54; replace sl55 := gs 55 z' sl55; have sl57 := gu 57 z'; replace sl66 := gs 66 z' sl66; replace sl67 := gs 67 z' sl67; replace sl68 := gs 68 z' sl68; replace sl69 := gs 69 z' sl69; replace sl70 := gs 70 z' sl70; clear z' sl72; refine listF_nil ?_
          repeat ((fail_if_success refine stp ?_); with_reducible go_step)
          refine cond_t ?_
          repeat ((fail_if_success refine stp ?_); with_reducible go_step)
          refine region_F ?_; have Hz := hid (show stpErr k.steps i = 2 by rw [stp_eq Hin.out]; exact if_pos (by first | exact .inl ⟨H60.out, h65'⟩ | exact .inr (.inl h72') | exact .inr (.inr h57'))); have He := hid (kdErr_s Hh.out Hw.out Hl.out hlt hp.out (by rw [Hz.out]; decide)); rw [Hz.out] at He; refine pl ?_; refine listF_abs (fun s69 z' => ?_); have sl2 := gu 2 z'; clear z' sl3 sl5 sl39 sl40 sl41 sl52 sl53 sl54 sl55 sl57 sl66 sl67 sl68 sl69 sl70; refine listF_nil ?_
          repeat ((fail_if_success refine stp ?_); with_reducible go_step)
          refine ret_F _ (res_t Try.results20 ((getD_F (by decide)).trans sl2)) ?_; exact ⟨ret_int He.out.symm, HB.out.toBelow⟩
         ·skip
          have h72' : ¬ lastV k i ≤ k.steps[i].volt := by simpa using h72
          iterate 5 refine py ?_
          refine pl ?_; refine pl ?_; refine listF_abs (fun s70 z' => ?_); replace sl3 := gs 3 z' sl3; replace sl5 := gs 5 z' sl5; replace sl39 := gs 39 z' sl39; replace sl40 := gs 40 z' sl40; replace sl41 := gs 41 z' sl41; replace sl52 := gs 52 z' sl52; replace sl53 := gs 53 z' sl53; replace sl54 := gs 54 z' sl54; replace sl55 := gs 55 z' sl55; have sl57 := gu 57 z'; replace sl66 := gs 66 z' sl66; replace sl67 := gs 67 z' sl67; replace sl68 := gs 68 z' sl68; replace sl69 := gs 69 z' sl69; replace sl70 := gs 70 z' sl70; have sl73 := gu 73 z'; have sl74 := gu 74 z'; have sl75 := gu 75 z'; have sl76 := gu 76 z'; have sl77 := gu 77 z'; clear z' sl72; refine listF_nil ?_
          repeat ((fail_if_success refine stp ?_); with_reducible go_step)
          refine cond_E sl57 (by decide) ?_ ?_ <;> (clear sl57; intro h57 sl57)
          ·skip
           have h57' : k.steps[i].need < lastN k i := by simpa using h57
           have Hz := hid (show stpErr k.steps i = 2 by rw [stp_eq Hin.out]; exact if_pos (by first | exact .inl ⟨H60.out, h65'⟩ | exact .inr (.inl h72') | exact .inr (.inr h57'))); have He := hid (kdErr_s Hh.out Hw.out Hl.out hlt hp.out (by rw [Hz.out]; decide)); rw [Hz.out] at He
           repeat ((fail_if_success refine stp ?_); with_reducible go_step)
           refine region_F ?_; refine pl ?_; refine listF_abs (fun s71 z' => ?_); have sl2 := gu 2 z'; clear z' sl3 sl5 sl39 sl40 sl41 sl52 sl53 sl54 sl55 sl57 sl66 sl67 sl68 sl69 sl70 sl73 sl74 sl75 sl76 sl77; refine listF_nil ?_
           repeat ((fail_if_success refine stp ?_); with_reducible go_step)
           refine ret_F _ (res_t Try.results20 ((getD_F (by decide)).trans sl2)) ?_; exact ⟨ret_int He.out.symm, HB.out.toBelow⟩
          ·skip
           have h57' : ¬ k.steps[i].need < lastN k i := by simpa using h57
           have Hz := hid (show stpErr k.steps i = 0 by rw [stp_eq Hin.out]; exact if_neg (by intro h; rcases h with ⟨h1, h2⟩ | h | h <;> first | exact h60' h1 | exact h65' h2 | exact h72' h | exact h57' h))
           repeat ((fail_if_success refine stp ?_); with_reducible go_step)
           refine region_F ?_; refine pl ?_; have zb3 := kb3.2.2; refine pl ?_; refine listF_absw (fun w72 hw' => ?_); have kb3' := cells_of hw' (Cells.set (i := 1) (Cells.set (i := 0) (kb3)))
           (try simp only [vC, List.set_cons_zero, List.set_cons_succ] at kb3')
           have hb73 : OldB [B3] w50 w72 := oldset hw'; clear hw'; clear cb3_0 cb3_1 cb5_0 cb5_1 zb3; clear qb1 qb10 qb19 qb35 qb3 qb5 qb49 qb54; replace kb3 := kb3'; replace kb1 := kb1.oldB hb73 (by first | (simp; done) | (simp; omega)); replace kb10 := kb10.oldB hb73 (by first | (simp; done) | (simp; omega)); replace kb19 := kb19.oldB hb73 (by first | (simp; done) | (simp; omega)); replace kb35 := kb35.oldB hb73 (by first | (simp; done) | (simp; omega)); replace kb5 := kb5.oldB hb73 (by first | (simp; done) | (simp; omega)); replace kb49 := kb49.oldB hb73 (by first | (simp; done) | (simp; omega)); replace kb54 := kb54.oldB hb73 (by first | (simp; done) | (simp; omega)); replace HL34 := hid (HL34.out.more hb73 (by simp; try omega)); replace HB := hid (HB.out.more hb73 (by simp; try omega)); clear hb73; have qb1 := kb1.1; have qb10 := kb10.1; have qb19 := kb19.1; have qb35 := kb35.1; have qb3 := kb3.1; have qb5 := kb5.1; have qb49 := kb49.1
           have qb54 := kb54.1; clear kb3'; refine listF_abs (fun s74 z' => ?_); replace sl3 := gs 3 z' sl3; replace sl39 := gs 39 z' sl39; replace sl40 := gs 40 z' sl40; replace sl41 := gs 41 z' sl41; replace sl52 := gs 52 z' sl52; replace sl53 := gs 53 z' sl53; replace sl54 := gs 54 z' sl54; replace sl55 := gs 55 z' sl55; replace sl66 := gs 66 z' sl66; replace sl67 := gs 67 z' sl67; replace sl68 := gs 68 z' sl68; replace sl69 := gs 69 z' sl69; replace sl70 := gs 70 z' sl70; replace sl73 := gs 73 z' sl73; replace sl74 := gs 74 z' sl74; replace sl75 := gs 75 z' sl75; replace sl76 := gs 76 z' sl76; replace sl77 := gs 77 z' sl77; clear z' sl5 sl57; refine listF_nil ?_
           repeat ((fail_if_success refine stp ?_); with_reducible go_step)
           refine region_F ?_; refine pl ?_; refine pl ?_; refine listF_abs (fun s75 z' => ?_); replace sl3 := gs 3 z' sl3; replace sl39 := gs 39 z' sl39; replace sl40 := gs 40 z' sl40; replace sl41 := gu 41 z'; replace sl52 := gs 52 z' sl52; replace sl53 := gs 53 z' sl53; replace sl54 := gs 54 z' sl54; replace sl55 := gs 55 z' sl55; replace sl66 := gs 66 z' sl66; replace sl67 := gs 67 z' sl67; replace sl68 := gs 68 z' sl68; replace sl69 := gs 69 z' sl69; replace sl70 := gs 70 z' sl70; replace sl73 := gs 73 z' sl73; replace sl74 := gs 74 z' sl74; replace sl75 := gs 75 z' sl75; replace sl76 := gs 76 z' sl76; replace sl77 := gs 77 z' sl77; clear z'; refine listF_nil ?_
           repeat ((fail_if_success refine stp ?_); with_reducible go_step)
           refine ⟨_, _, rfl, ?_, i + 1, rfl, (by first | (with_reducible exact sl41) | (rw [sl41]; (with_reducible go_num); done) | (rw [sl41, IntWalk.i64_in] <;> first | ((with_reducible go_num); done) | omega) | (rw [sl41]; go_num; done) | (rw [sl41]; simp; done) | (rw [sl41]; simp; omega)), (sl3.trans hc0_3.out.symm), (sl39.trans hc0_39.out.symm), (sl40.trans hc0_40.out.symm), HL34.out, (by rw [lastV_succ hlt, lastN_succ hlt]; exact kb3), hid (fun j hj => by rcases Nat.lt_or_ge j i with h | h <;> first | exact hp.out j h | (have e : j = i := (by omega); rw [e]; exact Hz.out)), by omega⟩
           omega
     ·skip
      have hge : k.steps.length ≤ i := by simpa using h42
      have He := hid (kdErr_0 Hh.out Hw.out Hl.out (fun j hj => hp.out j (by omega)))
      repeat ((fail_if_success refine stp ?_); with_reducible go_step)
      clear HL34; clear hc0_3 hc0_39 hc0_40; refine region_F ?_; refine pl ?_; refine listF_abs (fun s76 z' => ?_); have sl2 := gu 2 z'; clear z' sl3 sl39 sl40 sl41 sl42; refine listF_nil ?_
      repeat ((fail_if_success refine stp ?_); with_reducible go_step)
      refine ret_F _ (res_t Try.results20 ((getD_F (by decide)).trans sl2)) ?_; exact ⟨ret_int He.out.symm, HB.out.toBelow⟩

def OpenOk (k : Kd) (a : Option Addr) (c : Nat) (w : World) (e : Ending) (w' : World) : Prop := ∃ V, e = .returned (.tuple #[.pointer (some ⟨V, 0, none⟩), .int .i64 0]) ∧ w.heap.size ≤ V ∧ Cells w' V (vC k a c ⟨k.new, k.new⟩ 0) ∧ Below w.heap.size w w'

set_option maxRecDepth 100000 in
set_option maxHeartbeats 1000000 in
theorem open_bad (k : Kd) (a : Option Addr) (c : Nat) (w : World) (hN : -9223372036854775808 ≤ k.new ∧ k.new ≤ 9223372036854775807) (hsl : k.steps.length ≤ 9223372036854775807) (hR : RdSteps w a k.steps) (he : kdErr k ≠ 0) :
    Calls Try.prog 47 #[.agg #[.int .i64 k.new, .int .i64 k.wear.lo, .int .i64 k.wear.hi, .slice a k.steps.length c]] w (fun e w' => e = .returned (.tuple #[.pointer none, .int .i64 (kdErr k)]) ∧ Below w.heap.size w w') := by
 have HR := hid hR; have HN := hid hN; clear hR hN
 have he1 : (kdErr k != 0) = true := by simpa using he
 clear he
 refine enter_F Try.func47 rfl Try.ntmps47 (by simp) ?_
 intro s0 hs; have sl0 : s0 0 = .agg #[.int .i64 k.new, .int .i64 k.wear.lo, .int .i64 k.wear.hi, .slice a k.steps.length c] := hs 0 (by simp); clear hs; have HB := hid (OldB.refl [] w)
 repeat ((fail_if_success refine stp ?_); with_reducible go_step)
 refine region_F ?_; refine pa (fun w1 B1 hB kb1' hb2 => ?_); have gb1 := HB.out.gB hB; have eb1 := eB hB; clear hB; replace HB := hid (HB.out.below hb2); clear hb2; have kb1 := kb1'; clear kb1'; have qb1 := kb1.1; refine pl ?_; refine pl ?_; refine listF_abs (fun s3 z' => ?_); have sl1 := gu 1 z'; clear z' sl0; refine listF_nil ?_
 repeat ((fail_if_success refine stp ?_); with_reducible go_step)
 refine region_F ?_; have cb1_0 := kb1.cell 0 rfl; have cb1_1 := kb1.cell 1 rfl; have cb1_2 := kb1.cell 2 rfl; have cb1_3 := kb1.cell 3 rfl; refine pl ?_; refine listF_step rfl (fun K' hK => ?_); unfold opF; go_simp; refine (kcheck_any k a c _ HN.out hsl (Rd.oldB HR.out HB.out (by simp))).mono ?_; rintro e w4 ⟨rfl, hb5⟩; refine ⟨_, rfl, hK _ _ ?_⟩; clear hK K'; clear cb1_0 cb1_1 cb1_2 cb1_3; clear qb1; replace kb1 := kb1.at hb5; replace HB := hid (HB.out.below hb5); clear hb5; have qb1 := kb1.1; refine pl ?_; refine listF_abs (fun s6 z' => ?_); replace sl1 := gs 1 z' sl1; have sl4 := gu 4 z'; clear z'; refine listF_nil ?_
 repeat ((fail_if_success refine stp ?_); with_reducible go_step)
 refine region_F ?_; refine pl ?_; refine pl ?_; refine listF_abs (fun s7 z' => ?_); replace sl1 := gs 1 z' sl1; replace sl4 := gs 4 z' sl4; have sl8 := gu 8 z'; clear z'; refine listF_nil ?_
 repeat ((fail_if_success refine stp ?_); with_reducible go_step)
 refine cond_t ?_
 repeat ((fail_if_success refine stp ?_); with_reducible go_step)
 refine region_F ?_
 iterate 3 refine pl ?_
 refine listF_abs (fun s8 z' => ?_); have sl2 := gu 2 z'; have sl3 := gu 3 z'; clear z' sl1 sl4 sl8; refine listF_nil ?_
 repeat ((fail_if_success refine stp ?_); with_reducible go_step)
 refine ret_F _ (res_tt Try.results47 ((getD_F (by decide)).trans sl2) ((getD_F (by decide)).trans sl3)) ?_; exact ⟨rfl, HB.out.toBelow⟩

set_option maxRecDepth 100000 in
set_option maxHeartbeats 1000000 in
theorem open_ok (k : Kd) (a : Option Addr) (c : Nat) (w : World) (hN : -9223372036854775808 ≤ k.new ∧ k.new ≤ 9223372036854775807) (hsl : k.steps.length ≤ 9223372036854775807) (hR : RdSteps w a k.steps) (he : kdErr k = 0) :
    Calls Try.prog 47 #[.agg #[.int .i64 k.new, .int .i64 k.wear.lo, .int .i64 k.wear.hi, .slice a k.steps.length c]] w (OpenOk k a c w) := by
 have HR := hid hR; have HN := hid hN; clear hR hN
 have he1 : (kdErr k != 0) = false := by simp [he]
 have He := hid he; clear he
 refine enter_F Try.func47 rfl Try.ntmps47 (by simp) ?_
 intro s0 hs; have sl0 : s0 0 = .agg #[.int .i64 k.new, .int .i64 k.wear.lo, .int .i64 k.wear.hi, .slice a k.steps.length c] := hs 0 (by simp); clear hs; have HB := hid (OldB.refl [] w)
 repeat ((fail_if_success refine stp ?_); with_reducible go_step)
 refine region_F ?_; refine pa (fun w1 B1 hB kb1' hb2 => ?_); have gb1 := HB.out.gB hB; have eb1 := eB hB; clear hB; replace HB := hid (HB.out.below hb2); clear hb2; have kb1 := kb1'; clear kb1'; have qb1 := kb1.1; refine pl ?_; refine pl ?_; refine listF_abs (fun s3 z' => ?_); have sl1 := gu 1 z'; clear z' sl0; refine listF_nil ?_
 repeat ((fail_if_success refine stp ?_); with_reducible go_step)
 refine region_F ?_; have cb1_0 := kb1.cell 0 rfl; have cb1_1 := kb1.cell 1 rfl; have cb1_2 := kb1.cell 2 rfl; have cb1_3 := kb1.cell 3 rfl; refine pl ?_; refine listF_step rfl (fun K' hK => ?_); unfold opF; go_simp; refine (kcheck_any k a c _ HN.out hsl (Rd.oldB HR.out HB.out (by simp))).mono ?_; rintro e w4 ⟨rfl, hb5⟩; refine ⟨_, rfl, hK _ _ ?_⟩; clear hK K'; clear cb1_0 cb1_1 cb1_2 cb1_3; clear qb1; replace kb1 := kb1.at hb5; replace HB := hid (HB.out.below hb5); clear hb5; have qb1 := kb1.1; refine pl ?_; refine listF_abs (fun s6 z' => ?_); replace sl1 := gs 1 z' sl1; have sl4 := gu 4 z'; clear z'; refine listF_nil ?_
 repeat ((fail_if_success refine stp ?_); with_reducible go_step)
 refine region_F ?_; refine pl ?_; refine pl ?_; refine listF_abs (fun s7 z' => ?_); replace sl1 := gs 1 z' sl1; replace sl4 := gs 4 z' sl4; have sl8 := gu 8 z'; clear z'; refine listF_nil ?_
 repeat ((fail_if_success refine stp ?_); with_reducible go_step)
 refine cond_f ?_
 repeat ((fail_if_success refine stp ?_); with_reducible go_step)
 refine region_F ?_; have cb1_0 := kb1.cell 0 rfl; have cb1_1 := kb1.cell 1 rfl; have cb1_2 := kb1.cell 2 rfl; have cb1_3 := kb1.cell 3 rfl
 iterate 7 refine pl ?_
 refine pa (fun w8 B17 hB kb17' hb9 => ?_); have gb17 := HB.out.gB hB; have ob1_b17 := oB qb1 hB; have eb17 := eB hB; clear hB; clear cb1_0 cb1_1 cb1_2 cb1_3; clear qb1; replace kb1 := kb1.at hb9; replace HB := hid (HB.out.below hb9); clear hb9; have qb1 := kb1.1; have kb17 := kb17'; clear kb17'; have qb17 := kb17.1; refine pl ?_; refine pl ?_; refine listF_abs (fun s10 z' => ?_); have sl2 := gu 2 z'; have sl3 := gu 3 z'; clear z' sl1 sl4 sl8; refine listF_nil ?_
 repeat ((fail_if_success refine stp ?_); with_reducible go_step)
 refine ret_F _ (res_tt Try.results47 ((getD_F (by decide)).trans sl2) ((getD_F (by decide)).trans sl3)) ?_; exact ⟨_, rfl, gb17, kb17, HB.out.toBelow⟩

def needRes (k : Kd) (v : Int) : Int × Int := if kdErr k = 0 then (if voltOk k v then (needed k v, 0) else (0, 7)) else (0, kdErr k)

set_option maxRecDepth 100000 in
set_option maxHeartbeats 1000000 in
theorem qneed_any (k : Kd) (a : Option Addr) (c : Nat) (v : Int) (w : World) (hN : -9223372036854775808 ≤ k.new ∧ k.new ≤ 9223372036854775807) (hsl : k.steps.length ≤ 9223372036854775807) (hR : RdSteps w a k.steps) :
    Calls Try.prog 18 #[.agg #[.int .i64 k.new, .int .i64 k.wear.lo, .int .i64 k.wear.hi, .slice a k.steps.length c], .int .i64 v] w (fun e w' => e = .returned (.tuple #[.int .i64 (needRes k v).1, .int .i64 (needRes k v).2]) ∧ Below w.heap.size w w') := by
 have HR := hid hR; have HN := hid hN; clear hR hN
 refine enter_F Try.func18 rfl Try.ntmps18 (by simp) ?_
 intro s0 hs; have sl0 : s0 0 = .agg #[.int .i64 k.new, .int .i64 k.wear.lo, .int .i64 k.wear.hi, .slice a k.steps.length c] := hs 0 (by simp); have sl1 : s0 1 = .int .i64 v := hs 1 (by simp); clear hs; have HB := hid (OldB.refl [] w)
 repeat ((fail_if_success refine stp ?_); with_reducible go_step)
 refine region_F ?_; refine pa (fun w1 B2 hB kb2' hb2 => ?_); have gb2 := HB.out.gB hB; have eb2 := eB hB; clear hB; replace HB := hid (HB.out.below hb2); clear hb2; have kb2 := kb2'; clear kb2'; have qb2 := kb2.1; refine pl ?_; refine pl ?_; refine listF_abs (fun s3 z' => ?_); replace sl1 := gs 1 z' sl1; have sl2 := gu 2 z'; clear z' sl0; refine listF_nil ?_
 repeat ((fail_if_success refine stp ?_); with_reducible go_step)
 refine region_F ?_; have cb2_0 := kb2.cell 0 rfl; have cb2_1 := kb2.cell 1 rfl; have cb2_2 := kb2.cell 2 rfl; have cb2_3 := kb2.cell 3 rfl; refine pl ?_
 by_cases he : kdErr k = 0
 ·skip
  have He := hid he; have HK := hid (kok_of he); clear he; refine listF_step rfl (fun K' hK => ?_); unfold opF; go_simp; refine (open_ok k a c _ HN.out hsl (Rd.oldB HR.out HB.out (by simp)) He.out).mono ?_; rintro e w4 ⟨V, rfl, gV', hV', hb5⟩
  have gV : w.heap.size ≤ V := by have := HB.out.size; omega
  have ob2_V : B2 < V := by have := gV'; omega
  refine ⟨_, rfl, hK _ _ ?_⟩; clear hK K'; clear cb2_0 cb2_1 cb2_2 cb2_3; clear qb2; replace kb2 := kb2.at hb5; replace HB := hid (HB.out.below hb5); clear hb5; have qb2 := kb2.1; have kV := hV'; clear hV'; have qV := kV.1
  iterate 5 refine pl ?_
  refine listF_abs (fun s6 z' => ?_); replace sl1 := gs 1 z' sl1; have sl6 := gu 6 z'; have sl7 := gu 7 z'; clear z' sl2; refine listF_nil ?_
  repeat ((fail_if_success refine stp ?_); with_reducible go_step)
  refine region_F ?_
  iterate 3 refine pl ?_
  refine listF_abs (fun s7 z' => ?_); replace sl1 := gs 1 z' sl1; replace sl6 := gs 6 z' sl6; replace sl7 := gs 7 z' sl7; have sl13 := gu 13 z'; clear z'; refine listF_nil ?_
  repeat ((fail_if_success refine stp ?_); with_reducible go_step)
  refine cond_f ?_
  repeat ((fail_if_success refine stp ?_); with_reducible go_step)
  refine region_F ?_; refine pl ?_; refine pl ?_; refine listF_step rfl (fun K' hK => ?_); unfold opF; go_simp; refine (silent_any V k a c _ _ v _ kV (Rd.oldB HR.out HB.out (by simp)) HK.out).mono ?_; rintro e w8 ⟨rfl, hb9⟩; refine ⟨_, rfl, hK _ _ ?_⟩; clear hK K'; clear qb2 qV; replace kb2 := kb2.at hb9; replace kV := kV.at hb9; replace HB := hid (HB.out.below hb9); clear hb9; have qb2 := kb2.1; have qV := kV.1; refine pl ?_; refine listF_abs (fun s10 z' => ?_); replace sl1 := gs 1 z' sl1; replace sl6 := gs 6 z' sl6; have sl17 := gu 17 z'; clear z' sl7 sl13; refine listF_nil ?_
  repeat ((fail_if_success refine stp ?_); with_reducible go_step)
  refine cond_E sl17 (by decide) ?_ ?_ <;> (clear sl17; intro h17 sl17)
  ·skip
   have Hr := hid (show needRes k v = (0, 7) by unfold needRes; rw [if_pos He.out, if_neg (by simpa using h17)])
   repeat ((fail_if_success refine stp ?_); with_reducible go_step)
   refine region_F ?_; refine pl ?_; refine pl ?_; refine listF_abs (fun s11 z' => ?_); have sl4 := gu 4 z'; have sl5 := gu 5 z'; clear z' sl1 sl6 sl17; refine listF_nil ?_
   repeat ((fail_if_success refine stp ?_); with_reducible go_step)
   refine ret_F _ (res_tt Try.results18 ((getD_F (by decide)).trans sl4) ((getD_F (by decide)).trans sl5)) ?_; exact ⟨by rw [Hr.out], HB.out.toBelow⟩
  ·skip
   have hv : voltOk k v = true := by simpa using h17
   have Hv := hid hv; have Hr := hid (show needRes k v = (needed k v, 0) by unfold needRes; rw [if_pos He.out, if_pos hv]); clear hv
   repeat ((fail_if_success refine stp ?_); with_reducible go_step)
   refine region_F ?_; refine pl ?_; refine pl ?_; refine listF_step rfl (fun K' hK => ?_); unfold opF; go_simp; refine (need_any V k a c _ _ v _ kV (Rd.oldB HR.out HB.out (by simp)) HK.out Hv.out).mono ?_; rintro e w12 ⟨rfl, hb13⟩; refine ⟨_, rfl, hK _ _ ?_⟩; clear hK K'; clear qb2 qV; replace kb2 := kb2.at hb13; replace kV := kV.at hb13; replace HB := hid (HB.out.below hb13); clear hb13; have qb2 := kb2.1; have qV := kV.1; refine pl ?_; refine pl ?_; refine listF_abs (fun s14 z' => ?_); have sl4 := gu 4 z'; have sl5 := gu 5 z'; clear z' sl1 sl6 sl17; refine listF_nil ?_
   repeat ((fail_if_success refine stp ?_); with_reducible go_step)
   refine ret_F _ (res_tt Try.results18 ((getD_F (by decide)).trans sl4) ((getD_F (by decide)).trans sl5)) ?_; exact ⟨by rw [Hr.out], HB.out.toBelow⟩
 ·skip
  have He := hid he
  have he1 : (kdErr k != 0) = true := by simpa using he
  clear he; refine listF_step rfl (fun K' hK => ?_); unfold opF; go_simp; refine (open_bad k a c _ HN.out hsl (Rd.oldB HR.out HB.out (by simp)) He.out).mono ?_; rintro e w15 ⟨rfl, hb16⟩; refine ⟨_, rfl, hK _ _ ?_⟩; clear hK K'; clear cb2_0 cb2_1 cb2_2 cb2_3; clear qb2; replace kb2 := kb2.at hb16; replace HB := hid (HB.out.below hb16); clear hb16; have qb2 := kb2.1
  iterate 5 refine pl ?_
  refine listF_abs (fun s17 z' => ?_); replace sl1 := gs 1 z' sl1; have sl6 := gu 6 z'; have sl7 := gu 7 z'; clear z' sl2; refine listF_nil ?_
  repeat ((fail_if_success refine stp ?_); with_reducible go_step)
  refine region_F ?_
  iterate 3 refine pl ?_
  refine listF_abs (fun s18 z' => ?_); replace sl1 := gs 1 z' sl1; replace sl6 := gs 6 z' sl6; replace sl7 := gs 7 z' sl7; have sl13 := gu 13 z'; clear z'; refine listF_nil ?_
  repeat ((fail_if_success refine stp ?_); with_reducible go_step)
  refine cond_t ?_
  repeat ((fail_if_success refine stp ?_); with_reducible go_step)
  refine region_F ?_
  iterate 3 refine pl ?_
  refine listF_abs (fun s19 z' => ?_); have sl4 := gu 4 z'; have sl5 := gu 5 z'; clear z' sl1 sl6 sl7 sl13; refine listF_nil ?_
  repeat ((fail_if_success refine stp ?_); with_reducible go_step)
  refine ret_F _ (res_tt Try.results18 ((getD_F (by decide)).trans sl4) ((getD_F (by decide)).trans sl5)) ?_; exact ⟨by unfold needRes; rw [if_neg He.out], HB.out.toBelow⟩

end Go.Proofs.Ytndcmmghgljinaa
