/- Group: the program's, where it fails. -/
import Derived.Test.YtndcmmghgljinaardW18
import Derived.Test.YtndcmmghgljinaardW13
set_option linter.all false
namespace Go.Proofs.Ytndcmmghgljinaa

open Go.RowKit

theorem set2 {α : Type} (a b : α) (t : List α) (i : Nat) (v : α) : (a :: b :: t).set (i + 2) v = a :: b :: t.set i v := rfl
theorem flat_set2 (x : Span) : ∀ (l : List Span) (m : Nat), m < l.length → (((l.flatMap Span.cs).set (m * 2) (.int .i64 x.lo)).set (m * 2 + 1) (.int .i64 x.hi)) = (l.set m x).flatMap Span.cs
  | [], m, h => by simp at h
  | y :: l, 0, _ => by simp
  | y :: l, m + 1, h => by
    have ih := flat_set2 x l m (by simpa using h)
    simp only [List.set_cons_succ, List.flatMap_cons]
    rw [← ih]
    have e1 : (m + 1) * 2 = m * 2 + 2 := by omega
    have e2 : m * 2 + 2 + 1 = m * 2 + 1 + 2 := by omega
    rw [e1, e2]
    simp only [List.cons_append, List.nil_append, set2]
theorem flat_cells2 {w : World} {g : Nat} {l : List Span} (h : Cells w g (l.flatMap Span.cs)) {i : Nat} (hi : i < l.length) : w.cell? ⟨g, i * 2, none⟩ = some (.int .i64 l[i].lo) ∧ w.cell? ⟨g, i * 2 + 1, none⟩ = some (.int .i64 l[i].hi) := by
  have hg : ∀ j v, (Span.cs l[i])[j]? = some v → w.cell? ⟨g, i * 2 + j, none⟩ = some v := fun j v hv => h.2.1 _ _ (flat_get Span.cs 2 (fun _ => rfl) l i l[i] (List.getElem?_eq_getElem hi) j v hv)
  exact ⟨hg 0 _ rfl, hg 1 _ rfl⟩

set_option maxRecDepth 100000 in
set_option maxHeartbeats 4000000 in
theorem qgroup_false (k : Kd) (a : Option Addr) (c : Nat) (al : Option Addr) (cl : Nat) (l : List Span) (v : Int) (w : World) (hN : -9223372036854775808 ≤ k.new ∧ k.new ≤ 9223372036854775807) (hsl : k.steps.length ≤ 9223372036854775807) (hR : RdSteps w a k.steps) (hRl : RdSpans w al l) (hll : l.length ≤ 9223372036854775807) :
    Calls Try.prog 31 #[.agg #[.int .i64 k.new, .int .i64 k.wear.lo, .int .i64 k.wear.hi, .slice a k.steps.length c], .slice al l.length cl, .int .i64 v, .bool false] w (GrpRes k l v false w) := by
 have HR := hid hR; have HN := hid hN; clear hR hN; have HRl := hid hRl; clear hRl; obtain ⟨i0, hi0, hz0, hy0, hx0⟩ := info_parts info_span; obtain ⟨i1, hi1, hz1, hy1, hx1⟩ := info_parts info_int
 refine enter_F Try.func31 rfl Try.ntmps31 (by simp) ?_
 intro s0 hs; have sl0 : s0 0 = .agg #[.int .i64 k.new, .int .i64 k.wear.lo, .int .i64 k.wear.hi, .slice a k.steps.length c] := hs 0 (by simp); have sl1 : s0 1 = .slice al l.length cl := hs 1 (by simp); have sl2 : s0 2 = .int .i64 v := hs 2 (by simp); have sl3 : s0 3 = .bool false := hs 3 (by simp); clear hs; have HB := hid (OldB.refl [] w)
 repeat ((fail_if_success refine stp ?_); with_reducible go_step)
 refine region_F ?_; refine pa (fun w1 B4 hB kb4' hb2 => ?_); have gb4 := HB.out.gB hB; have eb4 := eB hB; clear hB; replace HB := hid (HB.out.below hb2); clear hb2; have kb4 := kb4'; clear kb4'; have qb4 := kb4.1
 iterate 3 refine pl ?_
 refine listF_abs (fun s3 z' => ?_); replace sl1 := gs 1 z' sl1; replace sl2 := gs 2 z' sl2; replace sl3 := gs 3 z' sl3; have sl4 := gu 4 z'; have sl8 := gu 8 z'; have sl9 := gu 9 z'; clear z' sl0; refine listF_nil ?_
 repeat ((fail_if_success refine stp ?_); with_reducible go_step)
 refine region_F ?_; have cb4_0 := kb4.cell 0 rfl; have cb4_1 := kb4.cell 1 rfl; have cb4_2 := kb4.cell 2 rfl; have cb4_3 := kb4.cell 3 rfl; refine pl ?_
 by_cases he : kdErr k = 0
 ·skip
  have He := hid he; have HK := hid (kok_of he); clear he; refine listF_step rfl (fun K' hK => ?_); unfold opF; go_simp; refine (open_ok k a c _ HN.out hsl (Rd.oldB HR.out HB.out (by simp)) He.out).mono ?_; rintro e w4 ⟨V, rfl, gV', hV', hb5⟩
  have gV : w.heap.size ≤ V := by have := HB.out.size; omega
  have ob4_V : B4 < V := by have := gV'; omega
  refine ⟨_, rfl, hK _ _ ?_⟩; clear hK K'; clear cb4_0 cb4_1 cb4_2 cb4_3; clear qb4; replace kb4 := kb4.at hb5; replace HB := hid (HB.out.below hb5); clear hb5; have qb4 := kb4.1; have kV := hV'; clear hV'; have qV := kV.1
  iterate 5 refine pl ?_
  refine listF_abs (fun s6 z' => ?_); replace sl1 := gs 1 z' sl1; replace sl2 := gs 2 z' sl2; replace sl3 := gs 3 z' sl3; replace sl8 := gs 8 z' sl8; replace sl9 := gs 9 z' sl9; have sl10 := gu 10 z'; have sl11 := gu 11 z'; clear z' sl4; refine listF_nil ?_
  repeat ((fail_if_success refine stp ?_); with_reducible go_step)
  refine region_F ?_
  iterate 3 refine pl ?_
  refine listF_abs (fun s7 z' => ?_); replace sl1 := gs 1 z' sl1; replace sl2 := gs 2 z' sl2; replace sl3 := gs 3 z' sl3; replace sl8 := gs 8 z' sl8; replace sl9 := gs 9 z' sl9; replace sl10 := gs 10 z' sl10; replace sl11 := gs 11 z' sl11; have sl24 := gu 24 z'; clear z'; refine listF_nil ?_
  repeat ((fail_if_success refine stp ?_); with_reducible go_step)
  refine cond_f ?_
  repeat ((fail_if_success refine stp ?_); with_reducible go_step)
  refine region_F ?_; refine pl ?_; refine pl ?_; refine listF_step rfl (fun K' hK => ?_); unfold opF; go_simp; refine (silent_any V k a c _ _ v _ kV (Rd.oldB HR.out HB.out (by simp)) HK.out).mono ?_; rintro e w8 ⟨rfl, hb9⟩; refine ⟨_, rfl, hK _ _ ?_⟩; clear hK K'; clear qb4 qV; replace kb4 := kb4.at hb9; replace kV := kV.at hb9; replace HB := hid (HB.out.below hb9); clear hb9; have qb4 := kb4.1; have qV := kV.1; refine pl ?_; refine listF_abs (fun s10 z' => ?_); replace sl1 := gs 1 z' sl1; replace sl2 := gs 2 z' sl2; replace sl3 := gs 3 z' sl3; replace sl8 := gs 8 z' sl8; replace sl9 := gs 9 z' sl9; replace sl11 := gs 11 z' sl11; have sl28 := gu 28 z'; clear z' sl10 sl24; refine listF_nil ?_
  repeat ((fail_if_success refine stp ?_); with_reducible go_step)
  refine cond_E sl28 (by decide) ?_ ?_ <;> (clear sl28; intro h28 sl28)
  ·skip
   have Her := hid (show grpErr k l v = 7 by unfold grpErr; rw [if_neg (by simp [He.out]), if_pos (by simpa using h28)]); have Hr := hid (show ∀ p, grpRes k l v p = ([], [], 7) from fun p => by unfold grpRes; rw [if_pos (by rw [Her.out]; decide), Her.out])
   repeat ((fail_if_success refine stp ?_); with_reducible go_step)
   refine region_F ?_
   iterate 3 refine pl ?_
   refine listF_abs (fun s11 z' => ?_); replace sl8 := gu 8 z'; replace sl9 := gu 9 z'; have sl10 := gu 10 z'; clear z' sl1 sl2 sl3 sl11 sl28; refine listF_nil ?_
   repeat ((fail_if_success refine stp ?_); with_reducible go_step)
   refine ret_F _ (res_ttt Try.results31 ((getD_F (by decide)).trans sl8) ((getD_F (by decide)).trans sl9) ((getD_F (by decide)).trans sl10)) ?_; exact grp_no (Hr.out _) HB.out.toBelow
  ·skip
   have Hv := hid (show voltOk k v = true by simpa using h28)
   repeat ((fail_if_success refine stp ?_); with_reducible go_step)
   refine region_F ?_
   iterate 4 refine pl ?_
   refine listF_abs (fun s12 z' => ?_); replace sl1 := gs 1 z' sl1; replace sl2 := gs 2 z' sl2; replace sl3 := gs 3 z' sl3; replace sl8 := gs 8 z' sl8; replace sl9 := gs 9 z' sl9; replace sl11 := gs 11 z' sl11; have sl32 := gu 32 z'; clear z' sl28; refine listF_nil ?_
   repeat ((fail_if_success refine stp ?_); with_reducible go_step)
   refine cond_E sl32 (by decide) ?_ ?_ <;> (clear sl32; intro h32 sl32)
   ·skip
    have hl12 : 12 < l.length := by simp at h32; omega
    have Her := hid (show grpErr k l v = 3 by unfold grpErr; rw [if_neg (by simp [He.out]), if_neg (by simp [Hv.out]), if_pos hl12]); have Hr := hid (show ∀ p, grpRes k l v p = ([], [], 3) from fun p => by unfold grpRes; rw [if_pos (by rw [Her.out]; decide), Her.out])
    repeat ((fail_if_success refine stp ?_); with_reducible go_step)
    refine region_F ?_
    iterate 3 refine pl ?_
    refine listF_abs (fun s13 z' => ?_); replace sl8 := gu 8 z'; replace sl9 := gu 9 z'; have sl10 := gu 10 z'; clear z' sl1 sl2 sl3 sl11 sl32; refine listF_nil ?_
    repeat ((fail_if_success refine stp ?_); with_reducible go_step)
    refine ret_F _ (res_ttt Try.results31 ((getD_F (by decide)).trans sl8) ((getD_F (by decide)).trans sl9) ((getD_F (by decide)).trans sl10)) ?_; exact grp_no (Hr.out _) HB.out.toBelow
   ·skip
    have hl12 : ¬ 12 < l.length := by simp at h32; omega
    obtain ⟨nd1, nd2⟩ := needed_bd HK.out Hv.out
    repeat ((fail_if_success refine stp ?_); with_reducible go_step)
    refine region_F ?_
    iterate 3 refine pl ?_
    refine listF_abs (fun s14 z' => ?_); replace sl1 := gs 1 z' sl1; replace sl2 := gs 2 z' sl2; replace sl3 := gs 3 z' sl3; replace sl8 := gs 8 z' sl8; replace sl9 := gs 9 z' sl9; replace sl11 := gs 11 z' sl11; have sl36 := gu 36 z'; have sl37 := gu 37 z'; have sl38 := gu 38 z'; clear z' sl32; refine listF_nil ?_
    repeat ((fail_if_success refine stp ?_); with_reducible go_step)
    have hc0_1 := hid sl1; have hc0_2 := hid sl2; have hc0_3 := hid sl3; have hc0_11 := hid sl11; have hc0_36 := hid sl36; have hc0_37 := hid sl37; refine loop_F (n := 131) (fun kJ sJ wJ => ∃ (i : Nat), kJ = l.length - i ∧ sJ 8 = .slice none 0 0 ∧ sJ 9 = .slice none 0 0 ∧ sJ 38 = .int .i64 (i : Int) ∧ sJ 1 = s14 1 ∧ sJ 2 = s14 2 ∧ sJ 3 = s14 3 ∧ sJ 11 = s14 11 ∧ sJ 36 = s14 36 ∧ sJ 37 = s14 37 ∧ OldB [] w8 wJ ∧ (Hid (∀ j (hj : j < l.length), j < i → spErr l[j] = 0)) ∧ i ≤ l.length) ⟨0, rfl, (by first | exact sl8 | (rw [sl8]; go_num) | (rw [sl8]; rfl)), (by first | exact sl9 | (rw [sl9]; go_num) | (rw [sl9]; rfl)), (by first | exact sl38 | (rw [sl38]; go_num) | (rw [sl38]; rfl)), rfl, rfl, rfl, rfl, rfl, rfl, OldB.refl _ _, hid (fun j hj h => by omega), Nat.zero_le _⟩ ?_; clear sl8 sl9 sl38; rintro kJ s15 w16 ⟨i, rfl, sl8, sl9, sl38, e1, e2, e3, e11, e36, e37, hb17, hp, hil⟩; replace sl1 := e1.trans sl1; clear e1
    replace sl2 := e2.trans sl2; clear e2; replace sl3 := e3.trans sl3; clear e3; replace sl11 := e11.trans sl11; clear e11; replace sl36 := e36.trans sl36; clear e36; replace sl37 := e37.trans sl37; clear e37; have hoJ := hb17; clear qb4 qV; replace kb4 := kb4.oldB hb17 (by first | (simp; done) | (simp; omega)); replace kV := kV.oldB hb17 (by first | (simp; done) | (simp; omega)); replace HB := hid (HB.out.more hb17 (by simp; try omega)); clear hb17; have qb4 := kb4.1; have qV := kV.1; have HoJ := hid hoJ; clear hoJ; have HL18 := HoJ; clear HoJ
    repeat ((fail_if_success refine stp ?_); with_reducible go_step)
    refine region_F ?_; refine pl ?_; refine listF_abs (fun s19 z' => ?_); replace sl1 := gs 1 z' sl1; replace sl2 := gs 2 z' sl2; replace sl3 := gs 3 z' sl3; replace sl8 := gs 8 z' sl8; replace sl9 := gs 9 z' sl9; replace sl11 := gs 11 z' sl11; replace sl36 := gs 36 z' sl36; replace sl37 := gs 37 z' sl37; replace sl38 := gs 38 z' sl38; have sl39 := gu 39 z'; clear z'; refine listF_nil ?_
    repeat ((fail_if_success refine stp ?_); with_reducible go_step)
    refine cond_E sl39 (by decide) ?_ ?_ <;> (clear sl39; intro h39 sl39)
    ·skip
     have hlt : i < l.length := by simpa using h39
     obtain ⟨b, off, rfl, hbs, c0, c1⟩ := RdSpans.ne (Rd.oldB HRl.out HB.out (by simp)) hlt
     repeat ((fail_if_success refine stp ?_); with_reducible go_step)
     refine region_F ?_; refine pl ?_; refine pl ?_; refine pa (fun w20 B13 hB kb13' hb21 => ?_); have gb13 := HB.out.gB hB; have lHL18_b13 := HL18.out.gB hB; have ob4_b13 := oB qb4 hB; have oV_b13 := oB qV hB; have eb13 := eB hB; clear hB; clear qb4 qV; replace kb4 := kb4.at hb21; replace kV := kV.at hb21; replace HL18 := hid (HL18.out.below hb21); replace HB := hid (HB.out.below hb21); clear hb21; have qb4 := kb4.1; have qV := kV.1; have kb13 := kb13'; clear kb13'; have qb13 := kb13.1; have cb13_0 := kb13.cell 0 rfl; have cb13_1 := kb13.cell 1 rfl; have zb13 := kb13.2.2; refine pl ?_; refine listF_absw (fun w22 hw' => ?_); have kb13' := cells_of hw' (Cells.set (i := 1) (Cells.set (i := 0) (kb13)))
     (try simp only [vC, List.set_cons_zero, List.set_cons_succ] at kb13')
     have hb23 : OldB [B13] w20 w22 := oldset hw'; clear hw'; clear cb13_0 cb13_1 zb13; clear qb4 qV qb13; replace kb13 := kb13'; replace kb4 := kb4.oldB hb23 (by first | (simp; done) | (simp; omega)); replace kV := kV.oldB hb23 (by first | (simp; done) | (simp; omega)); replace HL18 := hid (HL18.out.more hb23 (by simp; try omega)); replace HB := hid (HB.out.more hb23 (by simp; try omega)); clear hb23; have qb4 := kb4.1; have qV := kV.1; have qb13 := kb13.1; clear kb13'; refine listF_abs (fun s24 z' => ?_); replace sl1 := gs 1 z' sl1; replace sl2 := gs 2 z' sl2; replace sl3 := gs 3 z' sl3; replace sl8 := gs 8 z' sl8; replace sl9 := gs 9 z' sl9; replace sl11 := gs 11 z' sl11; have sl13 := gu 13 z'; replace sl36 := gs 36 z' sl36; replace sl37 := gs 37 z' sl37; replace sl38 := gs 38 z' sl38; clear z' sl39; refine listF_nil ?_
     repeat ((fail_if_success refine stp ?_); with_reducible go_step)
     refine region_F ?_; refine pl ?_; have cb13_0 := kb13.cell 0 rfl; have cb13_1 := kb13.cell 1 rfl
     iterate 3 refine pl ?_
     refine pas (fun w25 B47 hB kb47' hb26 => ?_); have gb47 := HB.out.gB hB; have lHL18_b47 := HL18.out.gB hB; have ob4_b47 := oB qb4 hB; have oV_b47 := oB qV hB; have ob13_b47 := oB qb13 hB; have eb47 := eB hB; clear hB; clear cb13_0 cb13_1; clear qb4 qV qb13; replace kb4 := kb4.at hb26; replace kV := kV.at hb26; replace kb13 := kb13.at hb26; replace HL18 := hid (HL18.out.below hb26); replace HB := hid (HB.out.below hb26); clear hb26; have qb4 := kb4.1; have qV := kV.1; have qb13 := kb13.1; have kb47 := kb47'; clear kb47'; have qb47 := kb47.1; refine listF_step rfl (fun K' hK => ?_); unfold opF; go_simp; refine (out_any 1000000 _ _ [l[i].lo, l[i].hi] _ (by simp) (rd2 kb47)).mono ?_; rintro e w27 ⟨rfl, hb28⟩; refine ⟨_, rfl, hK _ _ ?_⟩; clear hK K'; clear qb4 qV qb13 qb47; replace kb4 := kb4.at hb28; replace kV := kV.at hb28; replace kb13 := kb13.at hb28; replace kb47 := kb47.at hb28; replace HL18 := hid (HL18.out.below hb28); replace HB := hid (HB.out.below hb28)
     clear hb28; have qb4 := kb4.1; have qV := kV.1; have qb13 := kb13.1; have qb47 := kb47.1; refine pl ?_; refine listF_abs (fun s29 z' => ?_); replace sl1 := gs 1 z' sl1; replace sl2 := gs 2 z' sl2; replace sl3 := gs 3 z' sl3; replace sl8 := gs 8 z' sl8; replace sl9 := gs 9 z' sl9; replace sl11 := gs 11 z' sl11; replace sl13 := gs 13 z' sl13; replace sl36 := gs 36 z' sl36; replace sl37 := gs 37 z' sl37; replace sl38 := gs 38 z' sl38; have sl42 := gu 42 z'; clear z'; refine listF_nil ?_
     repeat ((fail_if_success refine stp ?_); with_reducible go_step)
     refine cond_E sl42 (by decide) ?_ ?_ <;> (clear sl42; intro h42 sl42)
     ·skip
      have he7 : spErr l[i] = 7 := by unfold spErr; rw [if_pos (by have h := out2_t h42; simp only [← inb_iff, Bool.not_eq_true] at h; exact h)]
      have Her := hid (show grpErr k l v = 7 by unfold grpErr; rw [if_neg (by simp [He.out]), if_neg (by simp [Hv.out]), if_neg hl12, find_first hlt hp.out (by rw [he7]; decide)]; exact he7); have Hr := hid (show ∀ p, grpRes k l v p = ([], [], 7) from fun p => by unfold grpRes; rw [if_pos (by rw [Her.out]; decide), Her.out]); clear he7
      repeat ((fail_if_success refine stp ?_); with_reducible go_step)
      refine region_F ?_
      iterate 3 refine pl ?_
      refine listF_abs (fun s30 z' => ?_); replace sl8 := gu 8 z'; replace sl9 := gu 9 z'; have sl10 := gu 10 z'; clear z' sl1 sl2 sl3 sl11 sl13 sl36 sl37 sl38 sl42; refine listF_nil ?_
      repeat ((fail_if_success refine stp ?_); with_reducible go_step)
      refine ret_F _ (res_ttt Try.results31 ((getD_F (by decide)).trans sl8) ((getD_F (by decide)).trans sl9) ((getD_F (by decide)).trans sl10)) ?_; exact grp_no (Hr.out _) HB.out.toBelow
     ·skip
      have hin := out2_f h42
      repeat ((fail_if_success refine stp ?_); with_reducible go_step)
      refine region_F ?_; refine pl ?_; have cb13_0 := kb13.cell 0 rfl; have cb13_1 := kb13.cell 1 rfl
      iterate 5 refine pl ?_
      refine listF_abs (fun s31 z' => ?_); replace sl1 := gs 1 z' sl1; replace sl2 := gs 2 z' sl2; replace sl3 := gs 3 z' sl3; replace sl8 := gs 8 z' sl8; replace sl9 := gs 9 z' sl9; replace sl11 := gs 11 z' sl11; replace sl36 := gs 36 z' sl36; replace sl37 := gs 37 z' sl37; replace sl38 := gs 38 z' sl38; have sl49 := gu 49 z'; clear z' sl13 sl42; refine listF_nil ?_
      repeat ((fail_if_success refine stp ?_); with_reducible go_step)
      refine cond_E sl49 (by decide) ?_ ?_ <;> (clear sl49; intro h49 sl49)
      ·skip
       have h49' : l[i].hi < l[i].lo := by simpa using h49
       have he2 : spErr l[i] = 2 := by unfold spErr; rw [if_neg (by simp only [not_or, Bool.not_eq_false, inb_iff]; exact hin), if_pos h49']
       have Her := hid (show grpErr k l v = 2 by unfold grpErr; rw [if_neg (by simp [He.out]), if_neg (by simp [Hv.out]), if_neg hl12, find_first hlt hp.out (by rw [he2]; decide)]; exact he2); have Hr := hid (show ∀ p, grpRes k l v p = ([], [], 2) from fun p => by unfold grpRes; rw [if_pos (by rw [Her.out]; decide), Her.out]); clear he2
       repeat ((fail_if_success refine stp ?_); with_reducible go_step)
       refine region_F ?_
       iterate 3 refine pl ?_
       refine listF_abs (fun s32 z' => ?_); replace sl8 := gu 8 z'; replace sl9 := gu 9 z'; have sl10 := gu 10 z'; clear z' sl1 sl2 sl3 sl11 sl36 sl37 sl38 sl49; refine listF_nil ?_
       repeat ((fail_if_success refine stp ?_); with_reducible go_step)
       refine ret_F _ (res_ttt Try.results31 ((getD_F (by decide)).trans sl8) ((getD_F (by decide)).trans sl9) ((getD_F (by decide)).trans sl10)) ?_; exact grp_no (Hr.out _) HB.out.toBelow
      ·skip
       have h49' : ¬ l[i].hi < l[i].lo := by simpa using h49
       have Hz := hid (show spErr l[i] = 0 by unfold spErr; rw [if_neg (by simp only [not_or, Bool.not_eq_false, inb_iff]; exact hin), if_neg h49'])
       repeat ((fail_if_success refine stp ?_); with_reducible go_step)
       refine region_F ?_; refine pl ?_; refine pl ?_; refine listF_abs (fun s33 z' => ?_); replace sl1 := gs 1 z' sl1; replace sl2 := gs 2 z' sl2; replace sl3 := gs 3 z' sl3; replace sl8 := gs 8 z' sl8; replace sl9 := gs 9 z' sl9; replace sl11 := gs 11 z' sl11; replace sl36 := gs 36 z' sl36; replace sl37 := gs 37 z' sl37; replace sl38 := gu 38 z'; clear z' sl49; refine listF_nil ?_
       repeat ((fail_if_success refine stp ?_); with_reducible go_step)
       clear cb13_0 cb13_1; refine ⟨_, _, rfl, ?_, i + 1, rfl, (by first | (with_reducible exact sl8) | (rw [sl8]; (with_reducible go_num); done) | (rw [sl8, IntWalk.i64_in] <;> first | ((with_reducible go_num); done) | omega) | (rw [sl8]; go_num; done) | (rw [sl8]; simp; done) | (rw [sl8]; simp; omega)), (by first | (with_reducible exact sl9) | (rw [sl9]; (with_reducible go_num); done) | (rw [sl9, IntWalk.i64_in] <;> first | ((with_reducible go_num); done) | omega) | (rw [sl9]; go_num; done) | (rw [sl9]; simp; done) | (rw [sl9]; simp; omega)), (by first | (with_reducible exact sl38) | (rw [sl38]; (with_reducible go_num); done) | (rw [sl38, IntWalk.i64_in] <;> first | ((with_reducible go_num); done) | omega) | (rw [sl38]; go_num; done) | (rw [sl38]; simp; done) | (rw [sl38]; simp; omega)), (sl1.trans hc0_1.out.symm), (sl2.trans hc0_2.out.symm), (sl3.trans hc0_3.out.symm), (sl11.trans hc0_11.out.symm), (sl36.trans hc0_36.out.symm), (sl37.trans hc0_37.out.symm), HL18.out, hid (fun j hj hji => by rcases Nat.lt_or_ge j i with h | h <;> first | exact hp.out j hj h | (have e : j = i := (by omega); subst e; exact Hz.out)), by omega⟩
       omega
    ·skip
     have hge : ¬ i < l.length := by simpa using h39
     have Hin := hid (show ∀ j (hj : j < l.length), spErr l[j] = 0 from fun j hj => hp.out j hj (by omega)); have Her := hid (show grpErr k l v = 0 by unfold grpErr; rw [if_neg (by simp [He.out]), if_neg (by simp [Hv.out]), if_neg hl12, find_no Hin.out])
     repeat ((fail_if_success refine stp ?_); with_reducible go_step)
     clear HL18; clear hc0_1 hc0_2 hc0_3 hc0_11 hc0_36 hc0_37; refine region_F ?_; refine pl ?_; refine pa (fun w34 B14 hB kb14' hb35 => ?_); have gb14 := HB.out.gB hB; have ob4_b14 := oB qb4 hB; have oV_b14 := oB qV hB; have eb14 := eB hB; clear hB; clear qb4 qV; replace kb4 := kb4.at hb35; replace kV := kV.at hb35; replace HB := hid (HB.out.below hb35); clear hb35; have qb4 := kb4.1; have qV := kV.1; have kb14 := kb14'; clear kb14'; have qb14 := kb14.1; have cb14_0 := kb14.cell 0 rfl; have cb14_1 := kb14.cell 1 rfl; have zb14 := kb14.2.2; refine pl ?_; refine listF_absw (fun w36 hw' => ?_); have kb14' := cells_of hw' (Cells.set (i := 1) (Cells.set (i := 0) (kb14)))
     (try simp only [vC, List.set_cons_zero, List.set_cons_succ] at kb14')
     have hb37 : OldB [B14] w34 w36 := oldset hw'; clear hw'; clear cb14_0 cb14_1 zb14; clear qb4 qV qb14; replace kb14 := kb14'; replace kb4 := kb4.oldB hb37 (by first | (simp; done) | (simp; omega)); replace kV := kV.oldB hb37 (by first | (simp; done) | (simp; omega)); replace HB := hid (HB.out.more hb37 (by simp; try omega)); clear hb37; have qb4 := kb4.1; have qV := kV.1; have qb14 := kb14.1; clear kb14'; refine listF_abs (fun s38 z' => ?_); replace sl1 := gs 1 z' sl1; replace sl2 := gs 2 z' sl2; replace sl3 := gs 3 z' sl3; replace sl8 := gs 8 z' sl8; replace sl9 := gs 9 z' sl9; replace sl11 := gs 11 z' sl11; have sl14 := gu 14 z'; clear z' sl36 sl37 sl38 sl39; refine listF_nil ?_
     repeat ((fail_if_success refine stp ?_); with_reducible go_step)
     refine region_F ?_; refine pl ?_; refine pl ?_; obtain ⟨NB, hNB⟩ : ∃ n, n = w36.heap.size := ⟨_, rfl⟩
     have gNB : w.heap.size ≤ NB := by have := HB.out.size; omega
     have hVN : V < NB := by omega
     have hb14N : B14 < NB := by omega
     have hNB2 : NB ≤ w36.heap.size := by omega
     refine pl ?_; refine listF_abs (fun s39 z' => ?_); replace sl1 := gs 1 z' sl1; replace sl2 := gs 2 z' sl2; replace sl3 := gs 3 z' sl3; replace sl8 := gs 8 z' sl8; replace sl9 := gs 9 z' sl9; replace sl11 := gs 11 z' sl11; replace sl14 := gs 14 z' sl14; have sl57 := gu 57 z'; have sl58 := gu 58 z'; have sl59 := gu 59 z'; clear z'; refine listF_nil ?_
     repeat ((fail_if_success refine stp ?_); with_reducible go_step)
     have hc1_1 := hid sl1; have hc1_2 := hid sl2; have hc1_3 := hid sl3; have hc1_11 := hid sl11; have hc1_14 := hid sl14; have hc1_57 := hid sl57; have hc1_58 := hid sl58; refine loop_F (n := 131) (fun kJ sJ wJ => ∃ (i : Nat) (v8 v9 : Value) (sv : Span), kJ = l.length - i ∧ sJ 8 = v8 ∧ sJ 9 = v9 ∧ sJ 59 = .int .i64 (i : Int) ∧ sJ 1 = s39 1 ∧ sJ 2 = s39 2 ∧ sJ 3 = s39 3 ∧ sJ 11 = s39 11 ∧ sJ 14 = s39 14 ∧ sJ 57 = s39 57 ∧ sJ 58 = s39 58 ∧ OldB [V] w36 wJ ∧ Cells wJ V (vC k a c sv 0) ∧ i ≤ l.length ∧ Own Span.cs 2 23 NB wJ v8 (aftUp k l v false i) ∧ Own int1 1 3 NB wJ v9 (susUp (needed k v) l i) ∧ Apart v8 v9) ⟨0, .slice none 0 0, .slice none 0 0, ⟨k.new, k.new⟩, rfl, (by first | exact sl8 | (rw [sl8]; go_num) | (rw [sl8]; rfl)), (by first | exact sl9 | (rw [sl9]; go_num) | (rw [sl9]; rfl)), (by first | exact sl59 | (rw [sl59]; go_num) | (rw [sl59]; rfl)), rfl, rfl, rfl, rfl, rfl, rfl, rfl, OldB.refl _ _, (by first | (with_reducible exact kV) | (apply Cells.conv; (focus (exact kV)); (first | rfl | (simp; done)))), Nat.zero_le _, Own.nil _ _ _ _ _, Own.nil _ _ _ _ _, (fun g hg => by cases hg)⟩ ?_
     clear sl8 sl9 sl59; rintro kJ s40 w41 ⟨i, v8, v9, sv, rfl, sl8, sl9, sl59, e1, e2, e3, e11, e14, e57, e58, hb42, mV', hil, hO8, hO9, ap_hO8_hO9⟩; replace sl1 := e1.trans sl1; clear e1; replace sl2 := e2.trans sl2; clear e2; replace sl3 := e3.trans sl3; clear e3; replace sl11 := e11.trans sl11; clear e11; replace sl14 := e14.trans sl14; clear e14; replace sl57 := e57.trans sl57; clear e57; replace sl58 := e58.trans sl58; clear e58; have hoJ := hb42; clear qb4 qV qb14; replace kV := mV'; replace kb4 := kb4.oldB hb42 (by first | (simp; done) | (simp; omega)); replace kb14 := kb14.oldB hb42 (by first | (simp; done) | (simp; omega)); replace HB := hid (HB.out.more hb42 (by simp; try omega)); clear hb42; have qb4 := kb4.1; have qV := kV.1; have qb14 := kb14.1; clear mV'; have HoJ := hid hoJ; clear hoJ; have HL43 := HoJ; clear HoJ
     repeat ((fail_if_success refine stp ?_); with_reducible go_step)
     refine region_F ?_; refine pl ?_; refine listF_abs (fun s44 z' => ?_); replace sl1 := gs 1 z' sl1; replace sl2 := gs 2 z' sl2; replace sl3 := gs 3 z' sl3; replace sl8 := gs 8 z' sl8; replace sl9 := gs 9 z' sl9; replace sl11 := gs 11 z' sl11; replace sl14 := gs 14 z' sl14; replace sl57 := gs 57 z' sl57; replace sl58 := gs 58 z' sl58; replace sl59 := gs 59 z' sl59; have sl60 := gu 60 z'; clear z'; refine listF_nil ?_
     repeat ((fail_if_success refine stp ?_); with_reducible go_step)
     refine cond_E sl60 (by decide) ?_ ?_ <;> (clear sl60; intro h60 sl60)
     ·skip
      have hlt : i < l.length := by simpa using h60
      obtain ⟨b, off, rfl, hbs, c0, c1⟩ := RdSpans.ne (Rd.oldB HRl.out HB.out (by simp)) hlt; obtain ⟨⟨s1, s2⟩, ⟨s3, s4⟩, s5⟩ := spErr_in (Hin.out i hlt)
      repeat ((fail_if_success refine stp ?_); with_reducible go_step)
      refine region_F ?_
      iterate 3 refine pl ?_
      refine pa (fun w45 B16 hB kb16' hb46 => ?_); have gb16 := HB.out.gB hB; have lHL43_b16 := HL43.out.gB hB; have ob4_b16 := oB qb4 hB; have oV_b16 := oB qV hB; have ob14_b16 := oB qb14 hB
      have nhO8_b16 : ∀ g, v8.ownBlock = some g → g < B16 := fun g hg => by have := (World.ownsRow.lt hO8 g hg).2; omega
      have nhO9_b16 : ∀ g, v9.ownBlock = some g → g < B16 := fun g hg => by have := (World.ownsRow.lt hO9 g hg).2; omega
      have eb16 := eB hB; clear hB; clear qb4 qV qb14; replace kb4 := kb4.at hb46; replace kV := kV.at hb46; replace kb14 := kb14.at hb46; replace HL43 := hid (HL43.out.below hb46); replace hO8 := Own.at hO8 hb46; replace hO9 := Own.at hO9 hb46; replace HB := hid (HB.out.below hb46); clear hb46; have qb4 := kb4.1; have qV := kV.1; have qb14 := kb14.1; have kb16 := kb16'; clear kb16'; have qb16 := kb16.1; refine pl ?_; have cb16_0 := kb16.cell 0 rfl; have cb16_1 := kb16.cell 1 rfl; have zb16 := kb16.2.2; refine pl ?_; refine listF_absw (fun w47 hw' => ?_); have kb16' := cells_of hw' (Cells.set (i := 1) (Cells.set (i := 0) (kb16)))
      (try simp only [vC, List.set_cons_zero, List.set_cons_succ] at kb16')
      have hb48 : OldB [B16] w45 w47 := oldset hw'; clear hw'; clear cb16_0 cb16_1 zb16; clear qb4 qV qb14 qb16; replace kb16 := kb16'; replace kb4 := kb4.oldB hb48 (by first | (simp; done) | (simp; omega)); replace kV := kV.oldB hb48 (by first | (simp; done) | (simp; omega)); replace kb14 := kb14.oldB hb48 (by first | (simp; done) | (simp; omega)); replace HL43 := hid (HL43.out.more hb48 (by simp; try omega)); replace hO8 := Own.oldB hO8 hb48 (fun g hg => by have n0 := (World.ownsRow.lt hO8 g hg).1; have nb16 := nhO8_b16 g hg; first | (simp; done) | (simp; omega)); replace hO9 := Own.oldB hO9 hb48 (fun g hg => by have n0 := (World.ownsRow.lt hO9 g hg).1; have nb16 := nhO9_b16 g hg; first | (simp; done) | (simp; omega)); replace HB := hid (HB.out.more hb48 (by simp; try omega)); clear hb48; have qb4 := kb4.1; have qV := kV.1; have qb14 := kb14.1; have qb16 := kb16.1; clear kb16'; refine listF_abs (fun s49 z' => ?_); replace sl1 := gs 1 z' sl1; replace sl2 := gs 2 z' sl2; replace sl3 := gs 3 z' sl3; replace sl8 := gs 8 z' sl8; replace sl9 := gs 9 z' sl9; replace sl11 := gs 11 z' sl11
      replace sl14 := gs 14 z' sl14; have sl15 := gu 15 z'; have sl16 := gu 16 z'; replace sl57 := gs 57 z' sl57; replace sl58 := gs 58 z' sl58; replace sl59 := gs 59 z' sl59; clear z' sl60; refine listF_nil ?_
      repeat ((fail_if_success refine stp ?_); with_reducible go_step)
      refine region_F ?_; refine pl ?_; have cb16_0 := kb16.cell 0 rfl; have cb16_1 := kb16.cell 1 rfl
      iterate 3 refine pl ?_
      have cV_0 := kV.cell 0 rfl; have cV_1 := kV.cell 1 rfl; have cV_2 := kV.cell 2 rfl; have cV_3 := kV.cell 3 rfl; have cV_4 := kV.cell 4 rfl; have cV_5 := kV.cell 5 rfl; have cV_6 := kV.cell 6 rfl; have zV := kV.2.2; refine pl ?_; refine listF_absw (fun w50 hw' => ?_); have kV' := cells_of hw' (Cells.set (i := 5) (Cells.set (i := 4) (kV)))
      (try simp only [vC, List.set_cons_zero, List.set_cons_succ] at kV')
      have hb51 : OldB [V] w47 w50 := oldset hw'; clear hw'; clear cV_0 cV_1 cV_2 cV_3 cV_4 cV_5 cV_6 cb16_0 cb16_1 zV; clear qb4 qV qb14 qb16; replace kV := kV'; replace kb4 := kb4.oldB hb51 (by first | (simp; done) | (simp; omega)); replace kb14 := kb14.oldB hb51 (by first | (simp; done) | (simp; omega)); replace kb16 := kb16.oldB hb51 (by first | (simp; done) | (simp; omega)); replace HL43 := hid (HL43.out.more hb51 (by simp; try omega)); replace hO8 := Own.oldB hO8 hb51 (fun g hg => by have n0 := (World.ownsRow.lt hO8 g hg).1; have nb16 := nhO8_b16 g hg; first | (simp; done) | (simp; omega)); replace hO9 := Own.oldB hO9 hb51 (fun g hg => by have n0 := (World.ownsRow.lt hO9 g hg).1; have nb16 := nhO9_b16 g hg; first | (simp; done) | (simp; omega)); replace HB := hid (HB.out.more hb51 (by simp; try omega)); clear hb51; have qb4 := kb4.1; have qV := kV.1; have qb14 := kb14.1; have qb16 := kb16.1; clear kV'; refine listF_abs (fun s52 z' => ?_)
      replace sl1 := gs 1 z' sl1; replace sl2 := gs 2 z' sl2; replace sl3 := gs 3 z' sl3; replace sl8 := gs 8 z' sl8; replace sl9 := gs 9 z' sl9; replace sl11 := gs 11 z' sl11; replace sl14 := gs 14 z' sl14; replace sl15 := gs 15 z' sl15; replace sl16 := gs 16 z' sl16; replace sl57 := gs 57 z' sl57; replace sl58 := gs 58 z' sl58; replace sl59 := gs 59 z' sl59; clear z'; refine listF_nil ?_
      repeat ((fail_if_success refine stp ?_); with_reducible go_step)
      refine region_F ?_
      iterate 3 refine pl ?_
      refine listF_step rfl (fun K' hK => ?_); unfold opF; go_simp; refine (result_any V k a c l[i] 0 v false _ kV (Rd.oldB HR.out HB.out (by simp)) HK.out Hv.out).mono ?_; rintro e w53 ⟨rfl, hb54⟩; refine ⟨_, rfl, hK _ _ ?_⟩; clear hK K'; clear qb4 qV qb14 qb16; replace kb4 := kb4.at hb54; replace kV := kV.at hb54; replace kb14 := kb14.at hb54; replace kb16 := kb16.at hb54; replace HL43 := hid (HL43.out.below hb54); replace hO8 := Own.at hO8 hb54; replace hO9 := Own.at hO9 hb54; replace HB := hid (HB.out.below hb54); clear hb54; have qb4 := kb4.1; have qV := kV.1; have qb14 := kb14.1; have qb16 := kb16.1; refine pa (fun w55 B17 hB kb17' hb56 => ?_); have gb17 := HB.out.gB hB; have lHL43_b17 := HL43.out.gB hB; have ob4_b17 := oB qb4 hB; have oV_b17 := oB qV hB; have ob14_b17 := oB qb14 hB; have ob16_b17 := oB qb16 hB
      have nhO8_b17 : ∀ g, v8.ownBlock = some g → g < B17 := fun g hg => by have := (World.ownsRow.lt hO8 g hg).2; omega
      have nhO9_b17 : ∀ g, v9.ownBlock = some g → g < B17 := fun g hg => by have := (World.ownsRow.lt hO9 g hg).2; omega
      have eb17 := eB hB; clear hB; clear qb4 qV qb14 qb16; replace kb4 := kb4.at hb56; replace kV := kV.at hb56; replace kb14 := kb14.at hb56; replace kb16 := kb16.at hb56; replace HL43 := hid (HL43.out.below hb56); replace hO8 := Own.at hO8 hb56; replace hO9 := Own.at hO9 hb56; replace HB := hid (HB.out.below hb56); clear hb56; have qb4 := kb4.1; have qV := kV.1; have qb14 := kb14.1; have qb16 := kb16.1; have kb17 := kb17'; clear kb17'; have qb17 := kb17.1; have cb17_0 := kb17.cell 0 rfl; have cb17_1 := kb17.cell 1 rfl; have zb17 := kb17.2.2; refine pl ?_; refine listF_absw (fun w57 hw' => ?_); have kb17' := cells_of hw' (Cells.set (i := 1) (Cells.set (i := 0) (kb17)))
      (try simp only [vC, List.set_cons_zero, List.set_cons_succ] at kb17')
      have hb58 : OldB [B17] w55 w57 := oldset hw'; clear hw'; clear cb17_0 cb17_1 zb17; clear qb4 qV qb14 qb16 qb17; replace kb17 := kb17'; replace kb4 := kb4.oldB hb58 (by first | (simp; done) | (simp; omega)); replace kV := kV.oldB hb58 (by first | (simp; done) | (simp; omega)); replace kb14 := kb14.oldB hb58 (by first | (simp; done) | (simp; omega)); replace kb16 := kb16.oldB hb58 (by first | (simp; done) | (simp; omega)); replace HL43 := hid (HL43.out.more hb58 (by simp; try omega)); replace hO8 := Own.oldB hO8 hb58 (fun g hg => by have n0 := (World.ownsRow.lt hO8 g hg).1; have nb16 := nhO8_b16 g hg; have nb17 := nhO8_b17 g hg; first | (simp; done) | (simp; omega)); replace hO9 := Own.oldB hO9 hb58 (fun g hg => by have n0 := (World.ownsRow.lt hO9 g hg).1; have nb16 := nhO9_b16 g hg; have nb17 := nhO9_b17 g hg; first | (simp; done) | (simp; omega)); replace HB := hid (HB.out.more hb58 (by simp; try omega)); clear hb58
      have qb4 := kb4.1; have qV := kV.1; have qb14 := kb14.1; have qb16 := kb16.1; have qb17 := kb17.1; clear kb17'; refine listF_abs (fun s59 z' => ?_); replace sl1 := gs 1 z' sl1; replace sl2 := gs 2 z' sl2; replace sl3 := gs 3 z' sl3; replace sl8 := gs 8 z' sl8; replace sl9 := gs 9 z' sl9; replace sl11 := gs 11 z' sl11; replace sl14 := gs 14 z' sl14; replace sl15 := gs 15 z' sl15; replace sl16 := gs 16 z' sl16; have sl17 := gu 17 z'; replace sl57 := gs 57 z' sl57; replace sl58 := gs 58 z' sl58; replace sl59 := gs 59 z' sl59; clear z'; refine listF_nil ?_
      repeat ((fail_if_success refine stp ?_); with_reducible go_step)
      refine region_F ?_; refine pl ?_; have cb17_0 := kb17.cell 0 rfl; have cb17_1 := kb17.cell 1 rfl
      iterate 4 refine pl ?_
      refine listF_abs (fun s60 z' => ?_); replace sl1 := gs 1 z' sl1; replace sl2 := gs 2 z' sl2; replace sl3 := gs 3 z' sl3; replace sl8 := gs 8 z' sl8; replace sl9 := gs 9 z' sl9; replace sl11 := gs 11 z' sl11; replace sl14 := gs 14 z' sl14; replace sl15 := gs 15 z' sl15; replace sl16 := gs 16 z' sl16; replace sl17 := gs 17 z' sl17; replace sl57 := gs 57 z' sl57; replace sl58 := gs 58 z' sl58; replace sl59 := gs 59 z' sl59; have sl76 := gu 76 z'; clear z'; refine listF_nil ?_
      repeat ((fail_if_success refine stp ?_); with_reducible go_step)
      refine cond_E sl76 (by decide) ?_ ?_ <;> (clear sl76; intro h76 sl76)
      ·skip
       have h76' : (agreed k l[i] v false).hi < (agreed k l[i] v false).lo := by simpa using h76
       have Hsu := hid (show susUp (needed k v) l (i + 1) = susUp (needed k v) l i by show (if (l.getD i Span.zero).lo < needed k v then _ else _) = _; rw [getD_get hlt, if_neg (by unfold agreed at h76'; simp at h76'; omega)])
       repeat ((fail_if_success refine stp ?_); with_reducible go_step)
       refine region_F ?_; have cb14_0 := kb14.cell 0 rfl; have cb14_1 := kb14.cell 1 rfl; refine pl ?_; have zb17 := kb17.2.2; refine pl ?_; refine listF_absw (fun w61 hw' => ?_); have kb17' := cells_of hw' (Cells.set (i := 1) (Cells.set (i := 0) (kb17)))
       (try simp only [vC, List.set_cons_zero, List.set_cons_succ] at kb17')
       have hb62 : OldB [B17] w57 w61 := oldset hw'; clear hw'; clear cb14_0 cb14_1 cb17_0 cb17_1 zb17; clear qb4 qV qb14 qb16 qb17; replace kb17 := kb17'; replace kb4 := kb4.oldB hb62 (by first | (simp; done) | (simp; omega)); replace kV := kV.oldB hb62 (by first | (simp; done) | (simp; omega)); replace kb14 := kb14.oldB hb62 (by first | (simp; done) | (simp; omega)); replace kb16 := kb16.oldB hb62 (by first | (simp; done) | (simp; omega)); replace HL43 := hid (HL43.out.more hb62 (by simp; try omega)); replace hO8 := Own.oldB hO8 hb62 (fun g hg => by have n0 := (World.ownsRow.lt hO8 g hg).1; have nb16 := nhO8_b16 g hg; have nb17 := nhO8_b17 g hg; first | (simp; done) | (simp; omega)); replace hO9 := Own.oldB hO9 hb62 (fun g hg => by have n0 := (World.ownsRow.lt hO9 g hg).1; have nb16 := nhO9_b16 g hg; have nb17 := nhO9_b17 g hg; first | (simp; done) | (simp; omega)); replace HB := hid (HB.out.more hb62 (by simp; try omega))
       clear hb62; have qb4 := kb4.1; have qV := kV.1; have qb14 := kb14.1; have qb16 := kb16.1; have qb17 := kb17.1; clear kb17'; refine listF_abs (fun s63 z' => ?_); replace sl1 := gs 1 z' sl1; replace sl2 := gs 2 z' sl2; replace sl3 := gs 3 z' sl3; replace sl8 := gs 8 z' sl8; replace sl9 := gs 9 z' sl9; replace sl11 := gs 11 z' sl11; replace sl14 := gs 14 z' sl14; replace sl15 := gs 15 z' sl15; replace sl16 := gs 16 z' sl16; replace sl17 := gs 17 z' sl17; replace sl57 := gs 57 z' sl57; replace sl58 := gs 58 z' sl58; replace sl59 := gs 59 z' sl59; clear z' sl76; refine listF_nil ?_
       repeat ((fail_if_success refine stp ?_); with_reducible go_step)
       refine region_F ?_; refine pl ?_; refine pl ?_
       refine pn false ?_; refine pn false ?_; refine pn false ?_; refine pl ?_; refine pl ?_; refine listF_abs (fun s64 z' => ?_); replace sl1 := gs 1 z' sl1; replace sl2 := gs 2 z' sl2; replace sl3 := gs 3 z' sl3; replace sl8 := gs 8 z' sl8; replace sl9 := gs 9 z' sl9; replace sl11 := gs 11 z' sl11; replace sl14 := gs 14 z' sl14; replace sl15 := gs 15 z' sl15; replace sl16 := gs 16 z' sl16; replace sl17 := gs 17 z' sl17; replace sl57 := gs 57 z' sl57; replace sl58 := gs 58 z' sl58; replace sl59 := gs 59 z' sl59; have sl78 := gu 78 z'; clear z'; refine listF_nil ?_
       repeat ((fail_if_success refine stp ?_); with_reducible go_step)
       refine cond_f ?_
       repeat ((fail_if_success refine stp ?_); with_reducible go_step)
       refine region_F ?_; refine pl ?_; refine pl ?_; refine listF_abs (fun s65 z' => ?_); replace sl1 := gs 1 z' sl1; replace sl2 := gs 2 z' sl2; replace sl3 := gs 3 z' sl3; replace sl8 := gs 8 z' sl8; replace sl9 := gs 9 z' sl9; replace sl11 := gs 11 z' sl11; replace sl14 := gs 14 z' sl14; replace sl15 := gs 15 z' sl15; replace sl16 := gs 16 z' sl16; replace sl17 := gs 17 z' sl17; replace sl57 := gs 57 z' sl57; replace sl58 := gs 58 z' sl58; replace sl59 := gs 59 z' sl59; have sl85 := gu 85 z'; clear z' sl78; refine listF_nil ?_
       repeat ((fail_if_success refine stp ?_); with_reducible go_step)
       refine cond_f ?_
       repeat ((fail_if_success refine stp ?_); with_reducible go_step)
       refine region_F ?_; have cb17_0 := kb17.cell 0 rfl; have cb17_1 := kb17.cell 1 rfl; refine pl ?_; have cb14_0 := kb14.cell 0 rfl; have cb14_1 := kb14.cell 1 rfl
       iterate 3 refine pl ?_
       refine listF_abs (fun s66 z' => ?_); replace sl1 := gs 1 z' sl1; replace sl2 := gs 2 z' sl2; replace sl3 := gs 3 z' sl3; replace sl8 := gs 8 z' sl8; replace sl9 := gs 9 z' sl9; replace sl11 := gs 11 z' sl11; replace sl14 := gs 14 z' sl14; replace sl15 := gs 15 z' sl15; replace sl16 := gs 16 z' sl16; replace sl57 := gs 57 z' sl57; replace sl58 := gs 58 z' sl58; replace sl59 := gs 59 z' sl59; have sl88 := gu 88 z'; clear z' sl17 sl85; refine listF_nil ?_
       repeat ((fail_if_success refine stp ?_); with_reducible go_step)
       refine cond_f ?_
       repeat ((fail_if_success refine stp ?_); with_reducible go_step)
       refine region_F ?_; refine pl ?_; have cb16_0 := kb16.cell 0 rfl; have cb16_1 := kb16.cell 1 rfl; refine pl ?_; refine pas (fun w67 B98 hB kb98' hb68 => ?_); have gb98 := HB.out.gB hB; have lHL43_b98 := HL43.out.gB hB; have ob4_b98 := oB qb4 hB; have oV_b98 := oB qV hB; have ob14_b98 := oB qb14 hB; have ob16_b98 := oB qb16 hB; have ob17_b98 := oB qb17 hB
       have nhO8_b98 : ∀ g, v8.ownBlock = some g → g < B98 := fun g hg => by have := (World.ownsRow.lt hO8 g hg).2; omega
       have nhO9_b98 : ∀ g, v9.ownBlock = some g → g < B98 := fun g hg => by have := (World.ownsRow.lt hO9 g hg).2; omega
       have eb98 := eB hB; clear hB; clear cb14_0 cb14_1 cb16_0 cb16_1 cb17_0 cb17_1; clear qb4 qV qb14 qb16 qb17; replace kb4 := kb4.at hb68; replace kV := kV.at hb68; replace kb14 := kb14.at hb68; replace kb16 := kb16.at hb68; replace kb17 := kb17.at hb68; replace HL43 := hid (HL43.out.below hb68); replace hO8 := Own.at hO8 hb68; replace hO9 := Own.at hO9 hb68; replace HB := hid (HB.out.below hb68); clear hb68; have qb4 := kb4.1; have qV := kV.1; have qb14 := kb14.1; have qb16 := kb16.1; have qb17 := kb17.1; have kb98 := kb98'; clear kb98'; have qb98 := kb98.1
       have ab4 : v8.ownBlock ≠ some B4 := fun e => by have n0 := (World.ownsRow.lt hO8 _ e).1; omega
       have aV : v8.ownBlock ≠ some V := fun e => by have n0 := (World.ownsRow.lt hO8 _ e).1; omega
       have ab14 : v8.ownBlock ≠ some B14 := fun e => by have n0 := (World.ownsRow.lt hO8 _ e).1; omega
       have ab16 : v8.ownBlock ≠ some B16 := fun e => by have n0 := (World.ownsRow.lt hO8 _ e).1; have n9 := nhO8_b16 _ e; omega
       have ab17 : v8.ownBlock ≠ some B17 := fun e => by have n0 := (World.ownsRow.lt hO8 _ e).1; have n9 := nhO8_b17 _ e; omega
       have ab98 : v8.ownBlock ≠ some B98 := fun e => by have n0 := (World.ownsRow.lt hO8 _ e).1; have n9 := nhO8_b98 _ e; omega
       have hzz := HB.out.size; refine listF_step rfl (fun K' hK => ?_); refine opF_app (d := 99) rfl (by decide) (.tmp 96) (.tmp 98) _ rfl 23 i0 _ 16 Try.underlying44 hi0 hz0 hy0 hx0 rfl (by decide) (fun _ => rfl) span_one NB v8 (aftUp k l v false i) [l[i]] (some ⟨B98, 0, none⟩) 1 (by go_simp) (by go_simp) hO8 (Cells.rd (f := Span.cs) (m := 2) (l := [l[i]]) (fun _ => rfl) kb98) (by rw [aftUp_len]; unfold maxLen; simp; omega) (by rw [aftUp_len]; simp; omega) (by omega) (fun v99 w69 hO' hG hV => hK _ _ ?_); clear hK K' hzz; clear qb4 qV qb14 qb16 qb17 qb98; replace kb4 := kb4.grown hG ab4; clear ab4; replace kV := kV.grown hG aV; clear aV; replace kb14 := kb14.grown hG ab14; clear ab14; replace kb16 := kb16.grown hG ab16; clear ab16; replace kb17 := kb17.grown hG ab17; clear ab17; replace kb98 := kb98.grown hG ab98; clear ab98; have ap' := Apart.app hO9 ap_hO8_hO9.symm hV; replace hO9 := Own.grown hO9 hG ap_hO8_hO9.symm
       clear ap_hO8_hO9; have ap_hO8_hO9 := ap'.symm; clear ap'; replace HL43 := hid (HL43.out.grown hG (fun k hk => .inl (by have := (World.ownsRow.lt hO8 k hk).1; omega))); replace HB := hid (HB.out.grown hG (fun k hk => .inl (by have := (World.ownsRow.lt hO8 k hk).1; omega))); clear hO8; have hO8 := hO'; clear hO' hG hV; clear nhO8_b16 nhO8_b17 nhO8_b98; have qb4 := kb4.1; have qV := kV.1; have qb14 := kb14.1; have qb16 := kb16.1; have qb17 := kb17.1; have qb98 := kb98.1; refine pl ?_; refine listF_abs (fun s70 z' => ?_); replace sl1 := gs 1 z' sl1; replace sl2 := gs 2 z' sl2; replace sl3 := gs 3 z' sl3; replace sl8 := gu 8 z'; replace sl9 := gs 9 z' sl9; replace sl11 := gs 11 z' sl11; replace sl14 := gs 14 z' sl14; replace sl57 := gs 57 z' sl57; replace sl58 := gs 58 z' sl58; replace sl59 := gs 59 z' sl59; clear z' sl15 sl16 sl88; refine listF_nil ?_
       repeat ((fail_if_success refine stp ?_); with_reducible go_step)
       refine region_F ?_; refine pl ?_; obtain ⟨NB, hNB⟩ : ∃ n, n = w69.heap.size := ⟨_, rfl⟩
       have gNB : w.heap.size ≤ NB := by have := HB.out.size; omega
       have hVN : V < NB := by omega
       have hb14N : B14 < NB := by omega
       have hNB2 : NB ≤ w69.heap.size := by omega
       refine pl ?_; refine listF_abs (fun s71 z' => ?_); replace sl1 := gs 1 z' sl1; replace sl2 := gs 2 z' sl2; replace sl3 := gs 3 z' sl3; replace sl8 := gs 8 z' sl8; replace sl9 := gs 9 z' sl9; replace sl11 := gs 11 z' sl11; replace sl14 := gs 14 z' sl14; replace sl57 := gs 57 z' sl57; replace sl58 := gs 58 z' sl58; replace sl59 := gu 59 z'; clear z'; refine listF_nil ?_
       repeat ((fail_if_success refine stp ?_); with_reducible go_step)
       refine ⟨_, _, rfl, ?_, i + 1, v99, v9, l[i], rfl, (by first | (with_reducible exact sl8) | (rw [sl8]; (with_reducible go_num); done) | (rw [sl8, IntWalk.i64_in] <;> first | ((with_reducible go_num); done) | omega) | (rw [sl8]; go_num; done) | (rw [sl8]; simp; done) | (rw [sl8]; simp; omega)), (by first | (with_reducible exact sl9) | (rw [sl9]; (with_reducible go_num); done) | (rw [sl9, IntWalk.i64_in] <;> first | ((with_reducible go_num); done) | omega) | (rw [sl9]; go_num; done) | (rw [sl9]; simp; done) | (rw [sl9]; simp; omega)), (by first | (with_reducible exact sl59) | (rw [sl59]; (with_reducible go_num); done) | (rw [sl59, IntWalk.i64_in] <;> first | ((with_reducible go_num); done) | omega) | (rw [sl59]; go_num; done) | (rw [sl59]; simp; done) | (rw [sl59]; simp; omega)), (sl1.trans hc1_1.out.symm), (sl2.trans hc1_2.out.symm), (sl3.trans hc1_3.out.symm), (sl11.trans hc1_11.out.symm), (sl14.trans hc1_14.out.symm), (sl57.trans hc1_57.out.symm), (sl58.trans hc1_58.out.symm), HL43.out, (by first | (with_reducible exact kV) | (apply Cells.conv; (focus (exact kV)); (first | rfl | (simp; done)))), by omega, (by rw [aftUp_succ hlt]; exact hO8), (by rw [Hsu.out]; exact hO9), ap_hO8_hO9⟩
       omega
      ·skip
       have h76' : ¬ (agreed k l[i] v false).hi < (agreed k l[i] v false).lo := by simpa using h76
       have Hsu := hid (show susUp (needed k v) l (i + 1) = susUp (needed k v) l i ++ [(i : Int)] by show (if (l.getD i Span.zero).lo < needed k v then _ else _) = _; rw [getD_get hlt, if_pos (by unfold agreed at h76'; simp at h76'; omega)])
       repeat ((fail_if_success refine stp ?_); with_reducible go_step)
       refine region_F ?_; refine pl ?_; refine pl ?_; refine pn false ?_; refine pn false ?_
       by_cases e1 : (agreed k l[i] v false).lo = 1
       ·skip
        have e2 : ¬ (agreed k l[i] v false).hi = 0 := by omega
        clear e1; refine pn false ?_; refine pl ?_; refine pl ?_; refine listF_abs (fun s72 z' => ?_); replace sl1 := gs 1 z' sl1; replace sl2 := gs 2 z' sl2; replace sl3 := gs 3 z' sl3; replace sl8 := gs 8 z' sl8; replace sl9 := gs 9 z' sl9; replace sl11 := gs 11 z' sl11; replace sl14 := gs 14 z' sl14; replace sl15 := gs 15 z' sl15; replace sl16 := gs 16 z' sl16; replace sl17 := gs 17 z' sl17; replace sl57 := gs 57 z' sl57; replace sl58 := gs 58 z' sl58; replace sl59 := gs 59 z' sl59; have sl78 := gu 78 z'; clear z' sl76; refine listF_nil ?_
        repeat ((fail_if_success refine stp ?_); with_reducible go_step)
        refine cond_f ?_
        repeat ((fail_if_success refine stp ?_); with_reducible go_step)
        refine region_F ?_; refine pl ?_; refine pl ?_; refine listF_abs (fun s73 z' => ?_); replace sl1 := gs 1 z' sl1; replace sl2 := gs 2 z' sl2; replace sl3 := gs 3 z' sl3; replace sl8 := gs 8 z' sl8; replace sl9 := gs 9 z' sl9; replace sl11 := gs 11 z' sl11; replace sl14 := gs 14 z' sl14; replace sl15 := gs 15 z' sl15; replace sl16 := gs 16 z' sl16; replace sl17 := gs 17 z' sl17; replace sl57 := gs 57 z' sl57; replace sl58 := gs 58 z' sl58; replace sl59 := gs 59 z' sl59; have sl85 := gu 85 z'; clear z' sl78; refine listF_nil ?_
        repeat ((fail_if_success refine stp ?_); with_reducible go_step)
        refine cond_f ?_
        repeat ((fail_if_success refine stp ?_); with_reducible go_step)
        refine region_F ?_; refine pl ?_; have cb14_0 := kb14.cell 0 rfl; have cb14_1 := kb14.cell 1 rfl; refine pl ?_
        by_cases e1 : (agreed k l[i] v false).lo = 1
        ·skip
         have e2 : ¬ (agreed k l[i] v false).hi = 0 := by omega
         clear e1; refine pl ?_; refine pl ?_; refine listF_abs (fun s74 z' => ?_); replace sl1 := gs 1 z' sl1; replace sl2 := gs 2 z' sl2; replace sl3 := gs 3 z' sl3; replace sl8 := gs 8 z' sl8; replace sl9 := gs 9 z' sl9; replace sl11 := gs 11 z' sl11; replace sl14 := gs 14 z' sl14; replace sl15 := gs 15 z' sl15; replace sl16 := gs 16 z' sl16; replace sl57 := gs 57 z' sl57; replace sl58 := gs 58 z' sl58; replace sl59 := gs 59 z' sl59; have sl88 := gu 88 z'; clear z' sl17 sl85; refine listF_nil ?_
         repeat ((fail_if_success refine stp ?_); with_reducible go_step)
         refine cond_t ?_
         repeat ((fail_if_success refine stp ?_); with_reducible go_step)
         refine region_F ?_; refine pl ?_; refine pl ?_; refine pas (fun w75 B94 hB kb94' hb76 => ?_); have gb94 := HB.out.gB hB; have lHL43_b94 := HL43.out.gB hB; have ob4_b94 := oB qb4 hB; have oV_b94 := oB qV hB; have ob14_b94 := oB qb14 hB; have ob16_b94 := oB qb16 hB; have ob17_b94 := oB qb17 hB
         have nhO8_b94 : ∀ g, v8.ownBlock = some g → g < B94 := fun g hg => by have := (World.ownsRow.lt hO8 g hg).2; omega
         have nhO9_b94 : ∀ g, v9.ownBlock = some g → g < B94 := fun g hg => by have := (World.ownsRow.lt hO9 g hg).2; omega
         have eb94 := eB hB; clear hB; clear cb14_0 cb14_1 cb17_0 cb17_1; clear qb4 qV qb14 qb16 qb17; replace kb4 := kb4.at hb76; replace kV := kV.at hb76; replace kb14 := kb14.at hb76; replace kb16 := kb16.at hb76; replace kb17 := kb17.at hb76; replace HL43 := hid (HL43.out.below hb76); replace hO8 := Own.at hO8 hb76; replace hO9 := Own.at hO9 hb76; replace HB := hid (HB.out.below hb76); clear hb76; have qb4 := kb4.1; have qV := kV.1; have qb14 := kb14.1; have qb16 := kb16.1; have qb17 := kb17.1; have kb94 := kb94'; clear kb94'; have qb94 := kb94.1
         have ab4 : v9.ownBlock ≠ some B4 := fun e => by have n0 := (World.ownsRow.lt hO9 _ e).1; omega
         have aV : v9.ownBlock ≠ some V := fun e => by have n0 := (World.ownsRow.lt hO9 _ e).1; omega
         have ab14 : v9.ownBlock ≠ some B14 := fun e => by have n0 := (World.ownsRow.lt hO9 _ e).1; omega
         have ab16 : v9.ownBlock ≠ some B16 := fun e => by have n0 := (World.ownsRow.lt hO9 _ e).1; have n9 := nhO9_b16 _ e; omega
         have ab17 : v9.ownBlock ≠ some B17 := fun e => by have n0 := (World.ownsRow.lt hO9 _ e).1; have n9 := nhO9_b17 _ e; omega
         have ab94 : v9.ownBlock ≠ some B94 := fun e => by have n0 := (World.ownsRow.lt hO9 _ e).1; have n9 := nhO9_b94 _ e; omega
         have hzz := HB.out.size; refine listF_step rfl (fun K' hK => ?_); refine opF_app (d := 95) rfl (by decide) (.tmp 92) (.tmp 94) _ rfl 3 i1 _ 8 Try.underlying47 hi1 hz1 hy1 hx1 rfl (by decide) (fun _ => rfl) int_one NB v9 (susUp (needed k v) l i) [(i : Int)] (some ⟨B94, 0, none⟩) 1 (by go_simp) (by go_simp) hO9 (Cells.rd (f := int1) (m := 1) (l := [(i : Int)]) (fun _ => rfl) kb94) (by have := susUp_len (needed k v) l i; unfold maxLen; simp; omega) (by have := susUp_len (needed k v) l i; simp; omega) (by omega) (fun v95 w77 hO' hG hV => hK _ _ ?_); clear hK K' hzz; clear qb4 qV qb14 qb16 qb17 qb94; replace kb4 := kb4.grown hG ab4; clear ab4; replace kV := kV.grown hG aV; clear aV; replace kb14 := kb14.grown hG ab14; clear ab14; replace kb16 := kb16.grown hG ab16; clear ab16; replace kb17 := kb17.grown hG ab17; clear ab17; replace kb94 := kb94.grown hG ab94; clear ab94; have ap' := Apart.app hO8 ap_hO8_hO9 hV; replace hO8 := Own.grown hO8 hG ap_hO8_hO9
         clear ap_hO8_hO9; have ap_hO8_hO9 := ap'; clear ap'; replace HL43 := hid (HL43.out.grown hG (fun k hk => .inl (by have := (World.ownsRow.lt hO9 k hk).1; omega))); replace HB := hid (HB.out.grown hG (fun k hk => .inl (by have := (World.ownsRow.lt hO9 k hk).1; omega))); clear hO9; have hO9 := hO'; clear hO' hG hV; clear nhO9_b16 nhO9_b17 nhO9_b94; have qb4 := kb4.1; have qV := kV.1; have qb14 := kb14.1; have qb16 := kb16.1; have qb17 := kb17.1; have qb94 := kb94.1; refine pl ?_; refine listF_abs (fun s78 z' => ?_); replace sl1 := gs 1 z' sl1; replace sl2 := gs 2 z' sl2; replace sl3 := gs 3 z' sl3; replace sl8 := gs 8 z' sl8; replace sl9 := gu 9 z'; replace sl11 := gs 11 z' sl11; replace sl14 := gs 14 z' sl14; replace sl16 := gs 16 z' sl16; replace sl57 := gs 57 z' sl57; replace sl58 := gs 58 z' sl58; replace sl59 := gs 59 z' sl59; clear z' sl15 sl88; refine listF_nil ?_
         repeat ((fail_if_success refine stp ?_); with_reducible go_step)
         refine region_F ?_; refine pl ?_; have cb16_0 := kb16.cell 0 rfl; have cb16_1 := kb16.cell 1 rfl; refine pl ?_; refine pas (fun w79 B98 hB kb98' hb80 => ?_); have gb98 := HB.out.gB hB; have lHL43_b98 := HL43.out.gB hB; have ob4_b98 := oB qb4 hB; have oV_b98 := oB qV hB; have ob14_b98 := oB qb14 hB; have ob16_b98 := oB qb16 hB; have ob17_b98 := oB qb17 hB; have ob94_b98 := oB qb94 hB
         have nhO8_b98 : ∀ g, v8.ownBlock = some g → g < B98 := fun g hg => by have := (World.ownsRow.lt hO8 g hg).2; omega
         have nhO9_b98 : ∀ g, v95.ownBlock = some g → g < B98 := fun g hg => by have := (World.ownsRow.lt hO9 g hg).2; omega
         have eb98 := eB hB; clear hB; clear cb16_0 cb16_1; clear qb4 qV qb14 qb16 qb17 qb94; replace kb4 := kb4.at hb80; replace kV := kV.at hb80; replace kb14 := kb14.at hb80; replace kb16 := kb16.at hb80; replace kb17 := kb17.at hb80; replace kb94 := kb94.at hb80; replace HL43 := hid (HL43.out.below hb80); replace hO8 := Own.at hO8 hb80; replace hO9 := Own.at hO9 hb80; replace HB := hid (HB.out.below hb80); clear hb80; have qb4 := kb4.1; have qV := kV.1; have qb14 := kb14.1; have qb16 := kb16.1; have qb17 := kb17.1; have qb94 := kb94.1; have kb98 := kb98'; clear kb98'; have qb98 := kb98.1
         have ab4 : v8.ownBlock ≠ some B4 := fun e => by have n0 := (World.ownsRow.lt hO8 _ e).1; omega
         have aV : v8.ownBlock ≠ some V := fun e => by have n0 := (World.ownsRow.lt hO8 _ e).1; omega
         have ab14 : v8.ownBlock ≠ some B14 := fun e => by have n0 := (World.ownsRow.lt hO8 _ e).1; omega
         have ab16 : v8.ownBlock ≠ some B16 := fun e => by have n0 := (World.ownsRow.lt hO8 _ e).1; have n9 := nhO8_b16 _ e; omega
         have ab17 : v8.ownBlock ≠ some B17 := fun e => by have n0 := (World.ownsRow.lt hO8 _ e).1; have n9 := nhO8_b17 _ e; omega
         have ab94 : v8.ownBlock ≠ some B94 := fun e => by have n0 := (World.ownsRow.lt hO8 _ e).1; have n9 := nhO8_b94 _ e; omega
         have ab98 : v8.ownBlock ≠ some B98 := fun e => by have n0 := (World.ownsRow.lt hO8 _ e).1; have n9 := nhO8_b98 _ e; omega
         have hzz := HB.out.size; refine listF_step rfl (fun K' hK => ?_); refine opF_app (d := 99) rfl (by decide) (.tmp 96) (.tmp 98) _ rfl 23 i0 _ 16 Try.underlying44 hi0 hz0 hy0 hx0 rfl (by decide) (fun _ => rfl) span_one NB v8 (aftUp k l v false i) [l[i]] (some ⟨B98, 0, none⟩) 1 (by go_simp) (by go_simp) hO8 (Cells.rd (f := Span.cs) (m := 2) (l := [l[i]]) (fun _ => rfl) kb98) (by rw [aftUp_len]; unfold maxLen; simp; omega) (by rw [aftUp_len]; simp; omega) (by omega) (fun v99 w81 hO' hG hV => hK _ _ ?_); clear hK K' hzz; clear qb4 qV qb14 qb16 qb17 qb94 qb98; replace kb4 := kb4.grown hG ab4; clear ab4; replace kV := kV.grown hG aV; clear aV; replace kb14 := kb14.grown hG ab14; clear ab14; replace kb16 := kb16.grown hG ab16; clear ab16; replace kb17 := kb17.grown hG ab17; clear ab17; replace kb94 := kb94.grown hG ab94; clear ab94; replace kb98 := kb98.grown hG ab98; clear ab98; have ap' := Apart.app hO9 ap_hO8_hO9.symm hV
         replace hO9 := Own.grown hO9 hG ap_hO8_hO9.symm; clear ap_hO8_hO9; have ap_hO8_hO9 := ap'.symm; clear ap'; replace HL43 := hid (HL43.out.grown hG (fun k hk => .inl (by have := (World.ownsRow.lt hO8 k hk).1; omega))); replace HB := hid (HB.out.grown hG (fun k hk => .inl (by have := (World.ownsRow.lt hO8 k hk).1; omega))); clear hO8; have hO8 := hO'; clear hO' hG hV; clear nhO8_b16 nhO8_b17 nhO8_b94 nhO8_b98; have qb4 := kb4.1; have qV := kV.1; have qb14 := kb14.1; have qb16 := kb16.1; have qb17 := kb17.1; have qb94 := kb94.1; have qb98 := kb98.1; refine pl ?_; refine listF_abs (fun s82 z' => ?_); replace sl1 := gs 1 z' sl1; replace sl2 := gs 2 z' sl2; replace sl3 := gs 3 z' sl3; replace sl8 := gu 8 z'; replace sl9 := gs 9 z' sl9; replace sl11 := gs 11 z' sl11; replace sl14 := gs 14 z' sl14; replace sl57 := gs 57 z' sl57; replace sl58 := gs 58 z' sl58; replace sl59 := gs 59 z' sl59; clear z' sl16; refine listF_nil ?_
         repeat ((fail_if_success refine stp ?_); with_reducible go_step)
         refine region_F ?_; refine pl ?_; obtain ⟨NB, hNB⟩ : ∃ n, n = w81.heap.size := ⟨_, rfl⟩
         have gNB : w.heap.size ≤ NB := by have := HB.out.size; omega
         have hVN : V < NB := by omega
         have hb14N : B14 < NB := by omega
         have hNB2 : NB ≤ w81.heap.size := by omega
         refine pl ?_; refine listF_abs (fun s83 z' => ?_); replace sl1 := gs 1 z' sl1; replace sl2 := gs 2 z' sl2; replace sl3 := gs 3 z' sl3; replace sl8 := gs 8 z' sl8; replace sl9 := gs 9 z' sl9; replace sl11 := gs 11 z' sl11; replace sl14 := gs 14 z' sl14; replace sl57 := gs 57 z' sl57; replace sl58 := gs 58 z' sl58; replace sl59 := gu 59 z'; clear z'; refine listF_nil ?_
         repeat ((fail_if_success refine stp ?_); with_reducible go_step)
         refine ⟨_, _, rfl, ?_, i + 1, v99, v95, l[i], rfl, (by first | (with_reducible exact sl8) | (rw [sl8]; (with_reducible go_num); done) | (rw [sl8, IntWalk.i64_in] <;> first | ((with_reducible go_num); done) | omega) | (rw [sl8]; go_num; done) | (rw [sl8]; simp; done) | (rw [sl8]; simp; omega)), (by first | (with_reducible exact sl9) | (rw [sl9]; (with_reducible go_num); done) | (rw [sl9, IntWalk.i64_in] <;> first | ((with_reducible go_num); done) | omega) | (rw [sl9]; go_num; done) | (rw [sl9]; simp; done) | (rw [sl9]; simp; omega)), (by first | (with_reducible exact sl59) | (rw [sl59]; (with_reducible go_num); done) | (rw [sl59, IntWalk.i64_in] <;> first | ((with_reducible go_num); done) | omega) | (rw [sl59]; go_num; done) | (rw [sl59]; simp; done) | (rw [sl59]; simp; omega)), (sl1.trans hc1_1.out.symm), (sl2.trans hc1_2.out.symm), (sl3.trans hc1_3.out.symm), (sl11.trans hc1_11.out.symm), (sl14.trans hc1_14.out.symm), (sl57.trans hc1_57.out.symm), (sl58.trans hc1_58.out.symm), HL43.out, (by first | (with_reducible exact kV) | (apply Cells.conv; (focus (exact kV)); (first | rfl | (simp; done)))), by omega, (by rw [aftUp_succ hlt]; exact hO8), (by rw [Hsu.out]; exact hO9), ap_hO8_hO9⟩
         omega
        ·skip
         refine pl ?_; refine pl ?_; refine listF_abs (fun s84 z' => ?_); replace sl1 := gs 1 z' sl1; replace sl2 := gs 2 z' sl2; replace sl3 := gs 3 z' sl3; replace sl8 := gs 8 z' sl8; replace sl9 := gs 9 z' sl9; replace sl11 := gs 11 z' sl11; replace sl14 := gs 14 z' sl14; replace sl15 := gs 15 z' sl15; replace sl16 := gs 16 z' sl16; replace sl57 := gs 57 z' sl57; replace sl58 := gs 58 z' sl58; replace sl59 := gs 59 z' sl59; have sl88 := gu 88 z'; clear z' sl17 sl85; refine listF_nil ?_
         repeat ((fail_if_success refine stp ?_); with_reducible go_step)
         refine cond_t ?_
         repeat ((fail_if_success refine stp ?_); with_reducible go_step)
         refine region_F ?_; refine pl ?_; refine pl ?_; refine pas (fun w85 B94 hB kb94' hb86 => ?_); have gb94 := HB.out.gB hB; have lHL43_b94 := HL43.out.gB hB; have ob4_b94 := oB qb4 hB; have oV_b94 := oB qV hB; have ob14_b94 := oB qb14 hB; have ob16_b94 := oB qb16 hB; have ob17_b94 := oB qb17 hB
         have nhO8_b94 : ∀ g, v8.ownBlock = some g → g < B94 := fun g hg => by have := (World.ownsRow.lt hO8 g hg).2; omega
         have nhO9_b94 : ∀ g, v9.ownBlock = some g → g < B94 := fun g hg => by have := (World.ownsRow.lt hO9 g hg).2; omega
         have eb94 := eB hB; clear hB; clear cb14_0 cb14_1 cb17_0 cb17_1; clear qb4 qV qb14 qb16 qb17; replace kb4 := kb4.at hb86; replace kV := kV.at hb86; replace kb14 := kb14.at hb86; replace kb16 := kb16.at hb86; replace kb17 := kb17.at hb86; replace HL43 := hid (HL43.out.below hb86); replace hO8 := Own.at hO8 hb86; replace hO9 := Own.at hO9 hb86; replace HB := hid (HB.out.below hb86); clear hb86; have qb4 := kb4.1; have qV := kV.1; have qb14 := kb14.1; have qb16 := kb16.1; have qb17 := kb17.1; have kb94 := kb94'; clear kb94'; have qb94 := kb94.1
         have ab4 : v9.ownBlock ≠ some B4 := fun e => by have n0 := (World.ownsRow.lt hO9 _ e).1; omega
         have aV : v9.ownBlock ≠ some V := fun e => by have n0 := (World.ownsRow.lt hO9 _ e).1; omega
         have ab14 : v9.ownBlock ≠ some B14 := fun e => by have n0 := (World.ownsRow.lt hO9 _ e).1; omega
         have ab16 : v9.ownBlock ≠ some B16 := fun e => by have n0 := (World.ownsRow.lt hO9 _ e).1; have n9 := nhO9_b16 _ e; omega
         have ab17 : v9.ownBlock ≠ some B17 := fun e => by have n0 := (World.ownsRow.lt hO9 _ e).1; have n9 := nhO9_b17 _ e; omega
         have ab94 : v9.ownBlock ≠ some B94 := fun e => by have n0 := (World.ownsRow.lt hO9 _ e).1; have n9 := nhO9_b94 _ e; omega
         have hzz := HB.out.size; refine listF_step rfl (fun K' hK => ?_); refine opF_app (d := 95) rfl (by decide) (.tmp 92) (.tmp 94) _ rfl 3 i1 _ 8 Try.underlying47 hi1 hz1 hy1 hx1 rfl (by decide) (fun _ => rfl) int_one NB v9 (susUp (needed k v) l i) [(i : Int)] (some ⟨B94, 0, none⟩) 1 (by go_simp) (by go_simp) hO9 (Cells.rd (f := int1) (m := 1) (l := [(i : Int)]) (fun _ => rfl) kb94) (by have := susUp_len (needed k v) l i; unfold maxLen; simp; omega) (by have := susUp_len (needed k v) l i; simp; omega) (by omega) (fun v95 w87 hO' hG hV => hK _ _ ?_); clear hK K' hzz; clear qb4 qV qb14 qb16 qb17 qb94; replace kb4 := kb4.grown hG ab4; clear ab4; replace kV := kV.grown hG aV; clear aV; replace kb14 := kb14.grown hG ab14; clear ab14; replace kb16 := kb16.grown hG ab16; clear ab16; replace kb17 := kb17.grown hG ab17; clear ab17; replace kb94 := kb94.grown hG ab94; clear ab94; have ap' := Apart.app hO8 ap_hO8_hO9 hV; replace hO8 := Own.grown hO8 hG ap_hO8_hO9
         clear ap_hO8_hO9; have ap_hO8_hO9 := ap'; clear ap'; replace HL43 := hid (HL43.out.grown hG (fun k hk => .inl (by have := (World.ownsRow.lt hO9 k hk).1; omega))); replace HB := hid (HB.out.grown hG (fun k hk => .inl (by have := (World.ownsRow.lt hO9 k hk).1; omega))); clear hO9; have hO9 := hO'; clear hO' hG hV; clear nhO9_b16 nhO9_b17 nhO9_b94; have qb4 := kb4.1; have qV := kV.1; have qb14 := kb14.1; have qb16 := kb16.1; have qb17 := kb17.1; have qb94 := kb94.1; refine pl ?_; refine listF_abs (fun s88 z' => ?_); replace sl1 := gs 1 z' sl1; replace sl2 := gs 2 z' sl2; replace sl3 := gs 3 z' sl3; replace sl8 := gs 8 z' sl8; replace sl9 := gu 9 z'; replace sl11 := gs 11 z' sl11; replace sl14 := gs 14 z' sl14; replace sl16 := gs 16 z' sl16; replace sl57 := gs 57 z' sl57; replace sl58 := gs 58 z' sl58; replace sl59 := gs 59 z' sl59; clear z' sl15 sl88; refine listF_nil ?_
         repeat ((fail_if_success refine stp ?_); with_reducible go_step)
         refine region_F ?_; refine pl ?_; have cb16_0 := kb16.cell 0 rfl; have cb16_1 := kb16.cell 1 rfl; refine pl ?_; refine pas (fun w89 B98 hB kb98' hb90 => ?_); have gb98 := HB.out.gB hB; have lHL43_b98 := HL43.out.gB hB; have ob4_b98 := oB qb4 hB; have oV_b98 := oB qV hB; have ob14_b98 := oB qb14 hB; have ob16_b98 := oB qb16 hB; have ob17_b98 := oB qb17 hB; have ob94_b98 := oB qb94 hB
         have nhO8_b98 : ∀ g, v8.ownBlock = some g → g < B98 := fun g hg => by have := (World.ownsRow.lt hO8 g hg).2; omega
         have nhO9_b98 : ∀ g, v95.ownBlock = some g → g < B98 := fun g hg => by have := (World.ownsRow.lt hO9 g hg).2; omega
         have eb98 := eB hB; clear hB; clear cb16_0 cb16_1; clear qb4 qV qb14 qb16 qb17 qb94; replace kb4 := kb4.at hb90; replace kV := kV.at hb90; replace kb14 := kb14.at hb90; replace kb16 := kb16.at hb90; replace kb17 := kb17.at hb90; replace kb94 := kb94.at hb90; replace HL43 := hid (HL43.out.below hb90); replace hO8 := Own.at hO8 hb90; replace hO9 := Own.at hO9 hb90; replace HB := hid (HB.out.below hb90); clear hb90; have qb4 := kb4.1; have qV := kV.1; have qb14 := kb14.1; have qb16 := kb16.1; have qb17 := kb17.1; have qb94 := kb94.1; have kb98 := kb98'; clear kb98'; have qb98 := kb98.1
         have ab4 : v8.ownBlock ≠ some B4 := fun e => by have n0 := (World.ownsRow.lt hO8 _ e).1; omega
         have aV : v8.ownBlock ≠ some V := fun e => by have n0 := (World.ownsRow.lt hO8 _ e).1; omega
         have ab14 : v8.ownBlock ≠ some B14 := fun e => by have n0 := (World.ownsRow.lt hO8 _ e).1; omega
         have ab16 : v8.ownBlock ≠ some B16 := fun e => by have n0 := (World.ownsRow.lt hO8 _ e).1; have n9 := nhO8_b16 _ e; omega
         have ab17 : v8.ownBlock ≠ some B17 := fun e => by have n0 := (World.ownsRow.lt hO8 _ e).1; have n9 := nhO8_b17 _ e; omega
         have ab94 : v8.ownBlock ≠ some B94 := fun e => by have n0 := (World.ownsRow.lt hO8 _ e).1; have n9 := nhO8_b94 _ e; omega
         have ab98 : v8.ownBlock ≠ some B98 := fun e => by have n0 := (World.ownsRow.lt hO8 _ e).1; have n9 := nhO8_b98 _ e; omega
         have hzz := HB.out.size; refine listF_step rfl (fun K' hK => ?_); refine opF_app (d := 99) rfl (by decide) (.tmp 96) (.tmp 98) _ rfl 23 i0 _ 16 Try.underlying44 hi0 hz0 hy0 hx0 rfl (by decide) (fun _ => rfl) span_one NB v8 (aftUp k l v false i) [l[i]] (some ⟨B98, 0, none⟩) 1 (by go_simp) (by go_simp) hO8 (Cells.rd (f := Span.cs) (m := 2) (l := [l[i]]) (fun _ => rfl) kb98) (by rw [aftUp_len]; unfold maxLen; simp; omega) (by rw [aftUp_len]; simp; omega) (by omega) (fun v99 w91 hO' hG hV => hK _ _ ?_); clear hK K' hzz; clear qb4 qV qb14 qb16 qb17 qb94 qb98; replace kb4 := kb4.grown hG ab4; clear ab4; replace kV := kV.grown hG aV; clear aV; replace kb14 := kb14.grown hG ab14; clear ab14; replace kb16 := kb16.grown hG ab16; clear ab16; replace kb17 := kb17.grown hG ab17; clear ab17; replace kb94 := kb94.grown hG ab94; clear ab94; replace kb98 := kb98.grown hG ab98; clear ab98; have ap' := Apart.app hO9 ap_hO8_hO9.symm hV
         replace hO9 := Own.grown hO9 hG ap_hO8_hO9.symm; clear ap_hO8_hO9; have ap_hO8_hO9 := ap'.symm; clear ap'; replace HL43 := hid (HL43.out.grown hG (fun k hk => .inl (by have := (World.ownsRow.lt hO8 k hk).1; omega))); replace HB := hid (HB.out.grown hG (fun k hk => .inl (by have := (World.ownsRow.lt hO8 k hk).1; omega))); clear hO8; have hO8 := hO'; clear hO' hG hV; clear nhO8_b16 nhO8_b17 nhO8_b94 nhO8_b98; have qb4 := kb4.1; have qV := kV.1; have qb14 := kb14.1; have qb16 := kb16.1; have qb17 := kb17.1; have qb94 := kb94.1; have qb98 := kb98.1; refine pl ?_; refine listF_abs (fun s92 z' => ?_); replace sl1 := gs 1 z' sl1; replace sl2 := gs 2 z' sl2; replace sl3 := gs 3 z' sl3; replace sl8 := gu 8 z'; replace sl9 := gs 9 z' sl9; replace sl11 := gs 11 z' sl11; replace sl14 := gs 14 z' sl14; replace sl57 := gs 57 z' sl57; replace sl58 := gs 58 z' sl58; replace sl59 := gs 59 z' sl59; clear z' sl16; refine listF_nil ?_
         repeat ((fail_if_success refine stp ?_); with_reducible go_step)
         refine region_F ?_; refine pl ?_; obtain ⟨NB, hNB⟩ : ∃ n, n = w91.heap.size := ⟨_, rfl⟩
         have gNB : w.heap.size ≤ NB := by have := HB.out.size; omega
         have hVN : V < NB := by omega
         have hb14N : B14 < NB := by omega
         have hNB2 : NB ≤ w91.heap.size := by omega
         refine pl ?_; refine listF_abs (fun s93 z' => ?_); replace sl1 := gs 1 z' sl1; replace sl2 := gs 2 z' sl2; replace sl3 := gs 3 z' sl3; replace sl8 := gs 8 z' sl8; replace sl9 := gs 9 z' sl9; replace sl11 := gs 11 z' sl11; replace sl14 := gs 14 z' sl14; replace sl57 := gs 57 z' sl57; replace sl58 := gs 58 z' sl58; replace sl59 := gu 59 z'; clear z'; refine listF_nil ?_
         repeat ((fail_if_success refine stp ?_); with_reducible go_step)
         refine ⟨_, _, rfl, ?_, i + 1, v99, v95, l[i], rfl, (by first | (with_reducible exact sl8) | (rw [sl8]; (with_reducible go_num); done) | (rw [sl8, IntWalk.i64_in] <;> first | ((with_reducible go_num); done) | omega) | (rw [sl8]; go_num; done) | (rw [sl8]; simp; done) | (rw [sl8]; simp; omega)), (by first | (with_reducible exact sl9) | (rw [sl9]; (with_reducible go_num); done) | (rw [sl9, IntWalk.i64_in] <;> first | ((with_reducible go_num); done) | omega) | (rw [sl9]; go_num; done) | (rw [sl9]; simp; done) | (rw [sl9]; simp; omega)), (by first | (with_reducible exact sl59) | (rw [sl59]; (with_reducible go_num); done) | (rw [sl59, IntWalk.i64_in] <;> first | ((with_reducible go_num); done) | omega) | (rw [sl59]; go_num; done) | (rw [sl59]; simp; done) | (rw [sl59]; simp; omega)), (sl1.trans hc1_1.out.symm), (sl2.trans hc1_2.out.symm), (sl3.trans hc1_3.out.symm), (sl11.trans hc1_11.out.symm), (sl14.trans hc1_14.out.symm), (sl57.trans hc1_57.out.symm), (sl58.trans hc1_58.out.symm), HL43.out, (by first | (with_reducible exact kV) | (apply Cells.conv; (focus (exact kV)); (first | rfl | (simp; done)))), by omega, (by rw [aftUp_succ hlt]; exact hO8), (by rw [Hsu.out]; exact hO9), ap_hO8_hO9⟩
         omega
       ·skip
        refine pn false ?_; refine pl ?_; refine pl ?_; refine listF_abs (fun s94 z' => ?_); replace sl1 := gs 1 z' sl1; replace sl2 := gs 2 z' sl2; replace sl3 := gs 3 z' sl3; replace sl8 := gs 8 z' sl8; replace sl9 := gs 9 z' sl9; replace sl11 := gs 11 z' sl11; replace sl14 := gs 14 z' sl14; replace sl15 := gs 15 z' sl15; replace sl16 := gs 16 z' sl16; replace sl17 := gs 17 z' sl17; replace sl57 := gs 57 z' sl57; replace sl58 := gs 58 z' sl58; replace sl59 := gs 59 z' sl59; have sl78 := gu 78 z'; clear z' sl76; refine listF_nil ?_
        repeat ((fail_if_success refine stp ?_); with_reducible go_step)
        refine cond_f ?_
        repeat ((fail_if_success refine stp ?_); with_reducible go_step)
        refine region_F ?_; refine pl ?_; refine pl ?_; refine listF_abs (fun s95 z' => ?_); replace sl1 := gs 1 z' sl1; replace sl2 := gs 2 z' sl2; replace sl3 := gs 3 z' sl3; replace sl8 := gs 8 z' sl8; replace sl9 := gs 9 z' sl9; replace sl11 := gs 11 z' sl11; replace sl14 := gs 14 z' sl14; replace sl15 := gs 15 z' sl15; replace sl16 := gs 16 z' sl16; replace sl17 := gs 17 z' sl17; replace sl57 := gs 57 z' sl57; replace sl58 := gs 58 z' sl58; replace sl59 := gs 59 z' sl59; have sl85 := gu 85 z'; clear z' sl78; refine listF_nil ?_
        repeat ((fail_if_success refine stp ?_); with_reducible go_step)
        refine cond_f ?_
        repeat ((fail_if_success refine stp ?_); with_reducible go_step)
        refine region_F ?_; refine pl ?_; have cb14_0 := kb14.cell 0 rfl; have cb14_1 := kb14.cell 1 rfl; refine pl ?_
        by_cases e1 : (agreed k l[i] v false).lo = 1
        ·skip
         have e2 : ¬ (agreed k l[i] v false).hi = 0 := by omega
         clear e1; refine pl ?_; refine pl ?_; refine listF_abs (fun s96 z' => ?_); replace sl1 := gs 1 z' sl1; replace sl2 := gs 2 z' sl2; replace sl3 := gs 3 z' sl3; replace sl8 := gs 8 z' sl8; replace sl9 := gs 9 z' sl9; replace sl11 := gs 11 z' sl11; replace sl14 := gs 14 z' sl14; replace sl15 := gs 15 z' sl15; replace sl16 := gs 16 z' sl16; replace sl57 := gs 57 z' sl57; replace sl58 := gs 58 z' sl58; replace sl59 := gs 59 z' sl59; have sl88 := gu 88 z'; clear z' sl17 sl85; refine listF_nil ?_
         repeat ((fail_if_success refine stp ?_); with_reducible go_step)
         refine cond_t ?_
         repeat ((fail_if_success refine stp ?_); with_reducible go_step)
         refine region_F ?_; refine pl ?_; refine pl ?_; refine pas (fun w97 B94 hB kb94' hb98 => ?_); have gb94 := HB.out.gB hB; have lHL43_b94 := HL43.out.gB hB; have ob4_b94 := oB qb4 hB; have oV_b94 := oB qV hB; have ob14_b94 := oB qb14 hB; have ob16_b94 := oB qb16 hB; have ob17_b94 := oB qb17 hB
         have nhO8_b94 : ∀ g, v8.ownBlock = some g → g < B94 := fun g hg => by have := (World.ownsRow.lt hO8 g hg).2; omega
         have nhO9_b94 : ∀ g, v9.ownBlock = some g → g < B94 := fun g hg => by have := (World.ownsRow.lt hO9 g hg).2; omega
         have eb94 := eB hB; clear hB; clear cb14_0 cb14_1 cb17_0 cb17_1; clear qb4 qV qb14 qb16 qb17; replace kb4 := kb4.at hb98; replace kV := kV.at hb98; replace kb14 := kb14.at hb98; replace kb16 := kb16.at hb98; replace kb17 := kb17.at hb98; replace HL43 := hid (HL43.out.below hb98); replace hO8 := Own.at hO8 hb98; replace hO9 := Own.at hO9 hb98; replace HB := hid (HB.out.below hb98); clear hb98; have qb4 := kb4.1; have qV := kV.1; have qb14 := kb14.1; have qb16 := kb16.1; have qb17 := kb17.1; have kb94 := kb94'; clear kb94'; have qb94 := kb94.1
         have ab4 : v9.ownBlock ≠ some B4 := fun e => by have n0 := (World.ownsRow.lt hO9 _ e).1; omega
         have aV : v9.ownBlock ≠ some V := fun e => by have n0 := (World.ownsRow.lt hO9 _ e).1; omega
         have ab14 : v9.ownBlock ≠ some B14 := fun e => by have n0 := (World.ownsRow.lt hO9 _ e).1; omega
         have ab16 : v9.ownBlock ≠ some B16 := fun e => by have n0 := (World.ownsRow.lt hO9 _ e).1; have n9 := nhO9_b16 _ e; omega
         have ab17 : v9.ownBlock ≠ some B17 := fun e => by have n0 := (World.ownsRow.lt hO9 _ e).1; have n9 := nhO9_b17 _ e; omega
         have ab94 : v9.ownBlock ≠ some B94 := fun e => by have n0 := (World.ownsRow.lt hO9 _ e).1; have n9 := nhO9_b94 _ e; omega
         have hzz := HB.out.size; refine listF_step rfl (fun K' hK => ?_); refine opF_app (d := 95) rfl (by decide) (.tmp 92) (.tmp 94) _ rfl 3 i1 _ 8 Try.underlying47 hi1 hz1 hy1 hx1 rfl (by decide) (fun _ => rfl) int_one NB v9 (susUp (needed k v) l i) [(i : Int)] (some ⟨B94, 0, none⟩) 1 (by go_simp) (by go_simp) hO9 (Cells.rd (f := int1) (m := 1) (l := [(i : Int)]) (fun _ => rfl) kb94) (by have := susUp_len (needed k v) l i; unfold maxLen; simp; omega) (by have := susUp_len (needed k v) l i; simp; omega) (by omega) (fun v95 w99 hO' hG hV => hK _ _ ?_); clear hK K' hzz; clear qb4 qV qb14 qb16 qb17 qb94; replace kb4 := kb4.grown hG ab4; clear ab4; replace kV := kV.grown hG aV; clear aV; replace kb14 := kb14.grown hG ab14; clear ab14; replace kb16 := kb16.grown hG ab16; clear ab16; replace kb17 := kb17.grown hG ab17; clear ab17; replace kb94 := kb94.grown hG ab94; clear ab94; have ap' := Apart.app hO8 ap_hO8_hO9 hV; replace hO8 := Own.grown hO8 hG ap_hO8_hO9
         clear ap_hO8_hO9; have ap_hO8_hO9 := ap'; clear ap'; replace HL43 := hid (HL43.out.grown hG (fun k hk => .inl (by have := (World.ownsRow.lt hO9 k hk).1; omega))); replace HB := hid (HB.out.grown hG (fun k hk => .inl (by have := (World.ownsRow.lt hO9 k hk).1; omega))); clear hO9; have hO9 := hO'; clear hO' hG hV; clear nhO9_b16 nhO9_b17 nhO9_b94; have qb4 := kb4.1; have qV := kV.1; have qb14 := kb14.1; have qb16 := kb16.1; have qb17 := kb17.1; have qb94 := kb94.1; refine pl ?_; refine listF_abs (fun s100 z' => ?_); replace sl1 := gs 1 z' sl1; replace sl2 := gs 2 z' sl2; replace sl3 := gs 3 z' sl3; replace sl8 := gs 8 z' sl8; replace sl9 := gu 9 z'; replace sl11 := gs 11 z' sl11; replace sl14 := gs 14 z' sl14; replace sl16 := gs 16 z' sl16; replace sl57 := gs 57 z' sl57; replace sl58 := gs 58 z' sl58; replace sl59 := gs 59 z' sl59; clear z' sl15 sl88; refine listF_nil ?_
         repeat ((fail_if_success refine stp ?_); with_reducible go_step)
         refine region_F ?_; refine pl ?_; have cb16_0 := kb16.cell 0 rfl; have cb16_1 := kb16.cell 1 rfl; refine pl ?_; refine pas (fun w101 B98 hB kb98' hb102 => ?_); have gb98 := HB.out.gB hB; have lHL43_b98 := HL43.out.gB hB; have ob4_b98 := oB qb4 hB; have oV_b98 := oB qV hB; have ob14_b98 := oB qb14 hB; have ob16_b98 := oB qb16 hB; have ob17_b98 := oB qb17 hB; have ob94_b98 := oB qb94 hB
         have nhO8_b98 : ∀ g, v8.ownBlock = some g → g < B98 := fun g hg => by have := (World.ownsRow.lt hO8 g hg).2; omega
         have nhO9_b98 : ∀ g, v95.ownBlock = some g → g < B98 := fun g hg => by have := (World.ownsRow.lt hO9 g hg).2; omega
         have eb98 := eB hB; clear hB; clear cb16_0 cb16_1; clear qb4 qV qb14 qb16 qb17 qb94; replace kb4 := kb4.at hb102; replace kV := kV.at hb102; replace kb14 := kb14.at hb102; replace kb16 := kb16.at hb102; replace kb17 := kb17.at hb102; replace kb94 := kb94.at hb102; replace HL43 := hid (HL43.out.below hb102); replace hO8 := Own.at hO8 hb102; replace hO9 := Own.at hO9 hb102; replace HB := hid (HB.out.below hb102); clear hb102; have qb4 := kb4.1; have qV := kV.1; have qb14 := kb14.1; have qb16 := kb16.1; have qb17 := kb17.1; have qb94 := kb94.1; have kb98 := kb98'; clear kb98'; have qb98 := kb98.1
         have ab4 : v8.ownBlock ≠ some B4 := fun e => by have n0 := (World.ownsRow.lt hO8 _ e).1; omega
         have aV : v8.ownBlock ≠ some V := fun e => by have n0 := (World.ownsRow.lt hO8 _ e).1; omega
         have ab14 : v8.ownBlock ≠ some B14 := fun e => by have n0 := (World.ownsRow.lt hO8 _ e).1; omega
         have ab16 : v8.ownBlock ≠ some B16 := fun e => by have n0 := (World.ownsRow.lt hO8 _ e).1; have n9 := nhO8_b16 _ e; omega
         have ab17 : v8.ownBlock ≠ some B17 := fun e => by have n0 := (World.ownsRow.lt hO8 _ e).1; have n9 := nhO8_b17 _ e; omega
         have ab94 : v8.ownBlock ≠ some B94 := fun e => by have n0 := (World.ownsRow.lt hO8 _ e).1; have n9 := nhO8_b94 _ e; omega
         have ab98 : v8.ownBlock ≠ some B98 := fun e => by have n0 := (World.ownsRow.lt hO8 _ e).1; have n9 := nhO8_b98 _ e; omega
         have hzz := HB.out.size; refine listF_step rfl (fun K' hK => ?_); refine opF_app (d := 99) rfl (by decide) (.tmp 96) (.tmp 98) _ rfl 23 i0 _ 16 Try.underlying44 hi0 hz0 hy0 hx0 rfl (by decide) (fun _ => rfl) span_one NB v8 (aftUp k l v false i) [l[i]] (some ⟨B98, 0, none⟩) 1 (by go_simp) (by go_simp) hO8 (Cells.rd (f := Span.cs) (m := 2) (l := [l[i]]) (fun _ => rfl) kb98) (by rw [aftUp_len]; unfold maxLen; simp; omega) (by rw [aftUp_len]; simp; omega) (by omega) (fun v99 w103 hO' hG hV => hK _ _ ?_); clear hK K' hzz; clear qb4 qV qb14 qb16 qb17 qb94 qb98; replace kb4 := kb4.grown hG ab4; clear ab4; replace kV := kV.grown hG aV; clear aV; replace kb14 := kb14.grown hG ab14; clear ab14; replace kb16 := kb16.grown hG ab16; clear ab16; replace kb17 := kb17.grown hG ab17; clear ab17; replace kb94 := kb94.grown hG ab94; clear ab94; replace kb98 := kb98.grown hG ab98; clear ab98; have ap' := Apart.app hO9 ap_hO8_hO9.symm hV
         replace hO9 := Own.grown hO9 hG ap_hO8_hO9.symm; clear ap_hO8_hO9; have ap_hO8_hO9 := ap'.symm; clear ap'; replace HL43 := hid (HL43.out.grown hG (fun k hk => .inl (by have := (World.ownsRow.lt hO8 k hk).1; omega))); replace HB := hid (HB.out.grown hG (fun k hk => .inl (by have := (World.ownsRow.lt hO8 k hk).1; omega))); clear hO8; have hO8 := hO'; clear hO' hG hV; clear nhO8_b16 nhO8_b17 nhO8_b94 nhO8_b98; have qb4 := kb4.1; have qV := kV.1; have qb14 := kb14.1; have qb16 := kb16.1; have qb17 := kb17.1; have qb94 := kb94.1; have qb98 := kb98.1; refine pl ?_; refine listF_abs (fun s104 z' => ?_); replace sl1 := gs 1 z' sl1; replace sl2 := gs 2 z' sl2; replace sl3 := gs 3 z' sl3; replace sl8 := gu 8 z'; replace sl9 := gs 9 z' sl9; replace sl11 := gs 11 z' sl11; replace sl14 := gs 14 z' sl14; replace sl57 := gs 57 z' sl57; replace sl58 := gs 58 z' sl58; replace sl59 := gs 59 z' sl59; clear z' sl16; refine listF_nil ?_
         repeat ((fail_if_success refine stp ?_); with_reducible go_step)
         refine region_F ?_; refine pl ?_; obtain ⟨NB, hNB⟩ : ∃ n, n = w103.heap.size := ⟨_, rfl⟩
         have gNB : w.heap.size ≤ NB := by have := HB.out.size; omega
         have hVN : V < NB := by omega
         have hb14N : B14 < NB := by omega
         have hNB2 : NB ≤ w103.heap.size := by omega
         refine pl ?_; refine listF_abs (fun s105 z' => ?_); replace sl1 := gs 1 z' sl1; replace sl2 := gs 2 z' sl2; replace sl3 := gs 3 z' sl3; replace sl8 := gs 8 z' sl8; replace sl9 := gs 9 z' sl9; replace sl11 := gs 11 z' sl11; replace sl14 := gs 14 z' sl14; replace sl57 := gs 57 z' sl57; replace sl58 := gs 58 z' sl58; replace sl59 := gu 59 z'; clear z'; refine listF_nil ?_
         repeat ((fail_if_success refine stp ?_); with_reducible go_step)
         refine ⟨_, _, rfl, ?_, i + 1, v99, v95, l[i], rfl, (by first | (with_reducible exact sl8) | (rw [sl8]; (with_reducible go_num); done) | (rw [sl8, IntWalk.i64_in] <;> first | ((with_reducible go_num); done) | omega) | (rw [sl8]; go_num; done) | (rw [sl8]; simp; done) | (rw [sl8]; simp; omega)), (by first | (with_reducible exact sl9) | (rw [sl9]; (with_reducible go_num); done) | (rw [sl9, IntWalk.i64_in] <;> first | ((with_reducible go_num); done) | omega) | (rw [sl9]; go_num; done) | (rw [sl9]; simp; done) | (rw [sl9]; simp; omega)), (by first | (with_reducible exact sl59) | (rw [sl59]; (with_reducible go_num); done) | (rw [sl59, IntWalk.i64_in] <;> first | ((with_reducible go_num); done) | omega) | (rw [sl59]; go_num; done) | (rw [sl59]; simp; done) | (rw [sl59]; simp; omega)), (sl1.trans hc1_1.out.symm), (sl2.trans hc1_2.out.symm), (sl3.trans hc1_3.out.symm), (sl11.trans hc1_11.out.symm), (sl14.trans hc1_14.out.symm), (sl57.trans hc1_57.out.symm), (sl58.trans hc1_58.out.symm), HL43.out, (by first | (with_reducible exact kV) | (apply Cells.conv; (focus (exact kV)); (first | rfl | (simp; done)))), by omega, (by rw [aftUp_succ hlt]; exact hO8), (by rw [Hsu.out]; exact hO9), ap_hO8_hO9⟩
         omega
        ·skip
         refine pl ?_; refine pl ?_; refine listF_abs (fun s106 z' => ?_); replace sl1 := gs 1 z' sl1; replace sl2 := gs 2 z' sl2; replace sl3 := gs 3 z' sl3; replace sl8 := gs 8 z' sl8; replace sl9 := gs 9 z' sl9; replace sl11 := gs 11 z' sl11; replace sl14 := gs 14 z' sl14; replace sl15 := gs 15 z' sl15; replace sl16 := gs 16 z' sl16; replace sl57 := gs 57 z' sl57; replace sl58 := gs 58 z' sl58; replace sl59 := gs 59 z' sl59; have sl88 := gu 88 z'; clear z' sl17 sl85; refine listF_nil ?_
         repeat ((fail_if_success refine stp ?_); with_reducible go_step)
         refine cond_t ?_
         repeat ((fail_if_success refine stp ?_); with_reducible go_step)
         refine region_F ?_; refine pl ?_; refine pl ?_; refine pas (fun w107 B94 hB kb94' hb108 => ?_); have gb94 := HB.out.gB hB; have lHL43_b94 := HL43.out.gB hB; have ob4_b94 := oB qb4 hB; have oV_b94 := oB qV hB; have ob14_b94 := oB qb14 hB; have ob16_b94 := oB qb16 hB; have ob17_b94 := oB qb17 hB
         have nhO8_b94 : ∀ g, v8.ownBlock = some g → g < B94 := fun g hg => by have := (World.ownsRow.lt hO8 g hg).2; omega
         have nhO9_b94 : ∀ g, v9.ownBlock = some g → g < B94 := fun g hg => by have := (World.ownsRow.lt hO9 g hg).2; omega
         have eb94 := eB hB; clear hB; clear cb14_0 cb14_1 cb17_0 cb17_1; clear qb4 qV qb14 qb16 qb17; replace kb4 := kb4.at hb108; replace kV := kV.at hb108; replace kb14 := kb14.at hb108; replace kb16 := kb16.at hb108; replace kb17 := kb17.at hb108; replace HL43 := hid (HL43.out.below hb108); replace hO8 := Own.at hO8 hb108; replace hO9 := Own.at hO9 hb108; replace HB := hid (HB.out.below hb108); clear hb108; have qb4 := kb4.1; have qV := kV.1; have qb14 := kb14.1; have qb16 := kb16.1; have qb17 := kb17.1; have kb94 := kb94'; clear kb94'; have qb94 := kb94.1
         have ab4 : v9.ownBlock ≠ some B4 := fun e => by have n0 := (World.ownsRow.lt hO9 _ e).1; omega
         have aV : v9.ownBlock ≠ some V := fun e => by have n0 := (World.ownsRow.lt hO9 _ e).1; omega
         have ab14 : v9.ownBlock ≠ some B14 := fun e => by have n0 := (World.ownsRow.lt hO9 _ e).1; omega
         have ab16 : v9.ownBlock ≠ some B16 := fun e => by have n0 := (World.ownsRow.lt hO9 _ e).1; have n9 := nhO9_b16 _ e; omega
         have ab17 : v9.ownBlock ≠ some B17 := fun e => by have n0 := (World.ownsRow.lt hO9 _ e).1; have n9 := nhO9_b17 _ e; omega
         have ab94 : v9.ownBlock ≠ some B94 := fun e => by have n0 := (World.ownsRow.lt hO9 _ e).1; have n9 := nhO9_b94 _ e; omega
         have hzz := HB.out.size; refine listF_step rfl (fun K' hK => ?_); refine opF_app (d := 95) rfl (by decide) (.tmp 92) (.tmp 94) _ rfl 3 i1 _ 8 Try.underlying47 hi1 hz1 hy1 hx1 rfl (by decide) (fun _ => rfl) int_one NB v9 (susUp (needed k v) l i) [(i : Int)] (some ⟨B94, 0, none⟩) 1 (by go_simp) (by go_simp) hO9 (Cells.rd (f := int1) (m := 1) (l := [(i : Int)]) (fun _ => rfl) kb94) (by have := susUp_len (needed k v) l i; unfold maxLen; simp; omega) (by have := susUp_len (needed k v) l i; simp; omega) (by omega) (fun v95 w109 hO' hG hV => hK _ _ ?_); clear hK K' hzz; clear qb4 qV qb14 qb16 qb17 qb94; replace kb4 := kb4.grown hG ab4; clear ab4; replace kV := kV.grown hG aV; clear aV; replace kb14 := kb14.grown hG ab14; clear ab14; replace kb16 := kb16.grown hG ab16; clear ab16; replace kb17 := kb17.grown hG ab17; clear ab17; replace kb94 := kb94.grown hG ab94; clear ab94; have ap' := Apart.app hO8 ap_hO8_hO9 hV; replace hO8 := Own.grown hO8 hG ap_hO8_hO9
         clear ap_hO8_hO9; have ap_hO8_hO9 := ap'; clear ap'; replace HL43 := hid (HL43.out.grown hG (fun k hk => .inl (by have := (World.ownsRow.lt hO9 k hk).1; omega))); replace HB := hid (HB.out.grown hG (fun k hk => .inl (by have := (World.ownsRow.lt hO9 k hk).1; omega))); clear hO9; have hO9 := hO'; clear hO' hG hV; clear nhO9_b16 nhO9_b17 nhO9_b94; have qb4 := kb4.1; have qV := kV.1; have qb14 := kb14.1; have qb16 := kb16.1; have qb17 := kb17.1; have qb94 := kb94.1; refine pl ?_; refine listF_abs (fun s110 z' => ?_); replace sl1 := gs 1 z' sl1; replace sl2 := gs 2 z' sl2; replace sl3 := gs 3 z' sl3; replace sl8 := gs 8 z' sl8; replace sl9 := gu 9 z'; replace sl11 := gs 11 z' sl11; replace sl14 := gs 14 z' sl14; replace sl16 := gs 16 z' sl16; replace sl57 := gs 57 z' sl57; replace sl58 := gs 58 z' sl58; replace sl59 := gs 59 z' sl59; clear z' sl15 sl88; refine listF_nil ?_
         repeat ((fail_if_success refine stp ?_); with_reducible go_step)
         refine region_F ?_; refine pl ?_; have cb16_0 := kb16.cell 0 rfl; have cb16_1 := kb16.cell 1 rfl; refine pl ?_; refine pas (fun w111 B98 hB kb98' hb112 => ?_); have gb98 := HB.out.gB hB; have lHL43_b98 := HL43.out.gB hB; have ob4_b98 := oB qb4 hB; have oV_b98 := oB qV hB; have ob14_b98 := oB qb14 hB; have ob16_b98 := oB qb16 hB; have ob17_b98 := oB qb17 hB; have ob94_b98 := oB qb94 hB
         have nhO8_b98 : ∀ g, v8.ownBlock = some g → g < B98 := fun g hg => by have := (World.ownsRow.lt hO8 g hg).2; omega
         have nhO9_b98 : ∀ g, v95.ownBlock = some g → g < B98 := fun g hg => by have := (World.ownsRow.lt hO9 g hg).2; omega
         have eb98 := eB hB; clear hB; clear cb16_0 cb16_1; clear qb4 qV qb14 qb16 qb17 qb94; replace kb4 := kb4.at hb112; replace kV := kV.at hb112; replace kb14 := kb14.at hb112; replace kb16 := kb16.at hb112; replace kb17 := kb17.at hb112; replace kb94 := kb94.at hb112; replace HL43 := hid (HL43.out.below hb112); replace hO8 := Own.at hO8 hb112; replace hO9 := Own.at hO9 hb112; replace HB := hid (HB.out.below hb112); clear hb112; have qb4 := kb4.1; have qV := kV.1; have qb14 := kb14.1; have qb16 := kb16.1; have qb17 := kb17.1; have qb94 := kb94.1; have kb98 := kb98'; clear kb98'; have qb98 := kb98.1
         have ab4 : v8.ownBlock ≠ some B4 := fun e => by have n0 := (World.ownsRow.lt hO8 _ e).1; omega
         have aV : v8.ownBlock ≠ some V := fun e => by have n0 := (World.ownsRow.lt hO8 _ e).1; omega
         have ab14 : v8.ownBlock ≠ some B14 := fun e => by have n0 := (World.ownsRow.lt hO8 _ e).1; omega
         have ab16 : v8.ownBlock ≠ some B16 := fun e => by have n0 := (World.ownsRow.lt hO8 _ e).1; have n9 := nhO8_b16 _ e; omega
         have ab17 : v8.ownBlock ≠ some B17 := fun e => by have n0 := (World.ownsRow.lt hO8 _ e).1; have n9 := nhO8_b17 _ e; omega
         have ab94 : v8.ownBlock ≠ some B94 := fun e => by have n0 := (World.ownsRow.lt hO8 _ e).1; have n9 := nhO8_b94 _ e; omega
         have ab98 : v8.ownBlock ≠ some B98 := fun e => by have n0 := (World.ownsRow.lt hO8 _ e).1; have n9 := nhO8_b98 _ e; omega
         have hzz := HB.out.size; refine listF_step rfl (fun K' hK => ?_); refine opF_app (d := 99) rfl (by decide) (.tmp 96) (.tmp 98) _ rfl 23 i0 _ 16 Try.underlying44 hi0 hz0 hy0 hx0 rfl (by decide) (fun _ => rfl) span_one NB v8 (aftUp k l v false i) [l[i]] (some ⟨B98, 0, none⟩) 1 (by go_simp) (by go_simp) hO8 (Cells.rd (f := Span.cs) (m := 2) (l := [l[i]]) (fun _ => rfl) kb98) (by rw [aftUp_len]; unfold maxLen; simp; omega) (by rw [aftUp_len]; simp; omega) (by omega) (fun v99 w113 hO' hG hV => hK _ _ ?_); clear hK K' hzz; clear qb4 qV qb14 qb16 qb17 qb94 qb98; replace kb4 := kb4.grown hG ab4; clear ab4; replace kV := kV.grown hG aV; clear aV; replace kb14 := kb14.grown hG ab14; clear ab14; replace kb16 := kb16.grown hG ab16; clear ab16; replace kb17 := kb17.grown hG ab17; clear ab17; replace kb94 := kb94.grown hG ab94; clear ab94; replace kb98 := kb98.grown hG ab98; clear ab98; have ap' := Apart.app hO9 ap_hO8_hO9.symm hV
         replace hO9 := Own.grown hO9 hG ap_hO8_hO9.symm; clear ap_hO8_hO9; have ap_hO8_hO9 := ap'.symm; clear ap'; replace HL43 := hid (HL43.out.grown hG (fun k hk => .inl (by have := (World.ownsRow.lt hO8 k hk).1; omega))); replace HB := hid (HB.out.grown hG (fun k hk => .inl (by have := (World.ownsRow.lt hO8 k hk).1; omega))); clear hO8; have hO8 := hO'; clear hO' hG hV; clear nhO8_b16 nhO8_b17 nhO8_b94 nhO8_b98; have qb4 := kb4.1; have qV := kV.1; have qb14 := kb14.1; have qb16 := kb16.1; have qb17 := kb17.1; have qb94 := kb94.1; have qb98 := kb98.1; refine pl ?_; refine listF_abs (fun s114 z' => ?_); replace sl1 := gs 1 z' sl1; replace sl2 := gs 2 z' sl2; replace sl3 := gs 3 z' sl3; replace sl8 := gu 8 z'; replace sl9 := gs 9 z' sl9; replace sl11 := gs 11 z' sl11; replace sl14 := gs 14 z' sl14; replace sl57 := gs 57 z' sl57; replace sl58 := gs 58 z' sl58; replace sl59 := gs 59 z' sl59; clear z' sl16; refine listF_nil ?_
         repeat ((fail_if_success refine stp ?_); with_reducible go_step)
         refine region_F ?_; refine pl ?_; obtain ⟨NB, hNB⟩ : ∃ n, n = w113.heap.size := ⟨_, rfl⟩
         have gNB : w.heap.size ≤ NB := by have := HB.out.size; omega
         have hVN : V < NB := by omega
         have hb14N : B14 < NB := by omega
         have hNB2 : NB ≤ w113.heap.size := by omega
         refine pl ?_; refine listF_abs (fun s115 z' => ?_); replace sl1 := gs 1 z' sl1; replace sl2 := gs 2 z' sl2; replace sl3 := gs 3 z' sl3; replace sl8 := gs 8 z' sl8; replace sl9 := gs 9 z' sl9; replace sl11 := gs 11 z' sl11; replace sl14 := gs 14 z' sl14; replace sl57 := gs 57 z' sl57; replace sl58 := gs 58 z' sl58; replace sl59 := gu 59 z'; clear z'; refine listF_nil ?_
         repeat ((fail_if_success refine stp ?_); with_reducible go_step)
         refine ⟨_, _, rfl, ?_, i + 1, v99, v95, l[i], rfl, (by first | (with_reducible exact sl8) | (rw [sl8]; (with_reducible go_num); done) | (rw [sl8, IntWalk.i64_in] <;> first | ((with_reducible go_num); done) | omega) | (rw [sl8]; go_num; done) | (rw [sl8]; simp; done) | (rw [sl8]; simp; omega)), (by first | (with_reducible exact sl9) | (rw [sl9]; (with_reducible go_num); done) | (rw [sl9, IntWalk.i64_in] <;> first | ((with_reducible go_num); done) | omega) | (rw [sl9]; go_num; done) | (rw [sl9]; simp; done) | (rw [sl9]; simp; omega)), (by first | (with_reducible exact sl59) | (rw [sl59]; (with_reducible go_num); done) | (rw [sl59, IntWalk.i64_in] <;> first | ((with_reducible go_num); done) | omega) | (rw [sl59]; go_num; done) | (rw [sl59]; simp; done) | (rw [sl59]; simp; omega)), (sl1.trans hc1_1.out.symm), (sl2.trans hc1_2.out.symm), (sl3.trans hc1_3.out.symm), (sl11.trans hc1_11.out.symm), (sl14.trans hc1_14.out.symm), (sl57.trans hc1_57.out.symm), (sl58.trans hc1_58.out.symm), HL43.out, (by first | (with_reducible exact kV) | (apply Cells.conv; (focus (exact kV)); (first | rfl | (simp; done)))), by omega, (by rw [aftUp_succ hlt]; exact hO8), (by rw [Hsu.out]; exact hO9), ap_hO8_hO9⟩
         omega
     ·skip
      have hge2 : ¬ i < l.length := by simpa using h60
      have Hie := hid (show i = l.length by omega); obtain ⟨a9, c9, rfl, hr9, hn9⟩ := Own.slice (f := int1) (m := 1) (fun _ => rfl) hO9; have Hn9 := hid hn9; clear hn9
      have hA : aftUp k l v false i = l := by rw [Hie.out]; unfold aftUp; simp
      have HA := hid hA; clear hA
      have hS : susUp (needed k v) l i = susUp (needed k v) l l.length := by rw [Hie.out]
      rw [hS] at hr9; have hSl := susUp_len (needed k v) l l.length; have sl9' := sl9; rw [hS] at sl9'; clear sl9 hS; have sl9 := sl9'; clear sl9'
      repeat ((fail_if_success refine stp ?_); with_reducible go_step)
      clear HL43; clear hc1_1 hc1_2 hc1_3 hc1_11 hc1_14 hc1_57 hc1_58; refine region_F ?_
      iterate 3 refine pl ?_
      iterate 3 refine py ?_
      refine pl ?_; refine pl ?_; refine listF_abs (fun s116 z' => ?_); replace sl1 := gs 1 z' sl1; replace sl2 := gs 2 z' sl2; replace sl8 := gs 8 z' sl8; replace sl9 := gs 9 z' sl9; replace sl11 := gs 11 z' sl11; have sl101 := gu 101 z'; clear z' sl3 sl14 sl57 sl58 sl59 sl60; refine listF_nil ?_
      repeat ((fail_if_success refine stp ?_); with_reducible go_step)
      refine cond_E sl101 (by decide) ?_ ?_ <;> (clear sl101; intro h101 sl101)
      ·skip
       have H101 := hid (show (susUp (needed k v) l l.length).length = 0 by simpa using h101); have Hdn := hid (show grpDown k l v false = true by show (susUp (needed k v) l l.length).isEmpty = true; have := H101.out; cases hz : susUp (needed k v) l l.length with | nil => rfl | cons x y => rw [hz] at this; simp at this)
       repeat ((fail_if_success refine stp ?_); with_reducible go_step)
       refine region_F ?_
       iterate 3 refine pl ?_
       refine listF_abs (fun s117 z' => ?_); replace sl8 := gu 8 z'; replace sl9 := gu 9 z'; have sl10 := gu 10 z'; clear z' sl1 sl2 sl11 sl101; refine listF_nil ?_
       repeat ((fail_if_success refine stp ?_); with_reducible go_step)
       refine ret_F _ (res_ttt Try.results31 ((getD_F (by decide)).trans sl8) ((getD_F (by decide)).trans sl9) ((getD_F (by decide)).trans sl10)) ?_; exact grp_no (by unfold grpRes; rw [if_neg (by rw [Her.out]; decide), if_pos Hdn.out]) HB.out.toBelow
      ·skip
       have H101 := hid (show ¬ (susUp (needed k v) l l.length).length = 0 by simpa using h101); have Hdn := hid (show ¬ grpDown k l v false = true by show ¬ (susUp (needed k v) l l.length).isEmpty = true; have := H101.out; cases hz : susUp (needed k v) l l.length with | nil => rw [hz] at this; exact absurd rfl this | cons x y => simp)
       repeat ((fail_if_success refine stp ?_); with_reducible go_step)
       refine region_F ?_
       iterate 4 refine pl ?_
       refine listF_abs (fun s118 z' => ?_); replace sl1 := gs 1 z' sl1; replace sl2 := gs 2 z' sl2; replace sl8 := gs 8 z' sl8; replace sl9 := gs 9 z' sl9; replace sl11 := gs 11 z' sl11; have sl109 := gu 109 z'; clear z' sl101; refine listF_nil ?_
       repeat ((fail_if_success refine stp ?_); with_reducible go_step)
       refine cond_E sl109 (by decide) ?_ ?_ <;> (clear sl109; intro h109 sl109)
       ·skip
        have H109 := hid (show (susUp (needed k v) l l.length).length = 1 by have : ((susUp (needed k v) l l.length).length : Int) = 1 := (by simpa using h109); omega)
        obtain ⟨q, hq, hsq⟩ : ∃ q : Nat, q < l.length ∧ susUp (needed k v) l l.length = [(q : Int)] := by obtain ⟨x, hx⟩ := List.length_eq_one_iff.1 H109.out; obtain ⟨j, hj, rfl⟩ := susUp_mem (need := needed k v) (l := l) (i := l.length) (x := x) (by rw [hx]; simp); exact ⟨j, hj, hx⟩
        have Hsq := hid hsq; rw [hsq] at hr9; rw [hsq] at sl9; clear hsq h109; obtain ⟨b9, o9, rfl, hb9, d0⟩ := RdInts.ne hr9 (k := 0) (by simp)
        simp at d0
        obtain ⟨b, off, rfl, hbs, c0, c1⟩ := RdSpans.ne (Rd.oldB HRl.out HB.out (by simp)) hq
        have hq' : (q : Int) < l.length := by omega
        have hq8 : q < (aftUp k l v false i).length := by rw [HA.out]; exact hq
        obtain ⟨g8, cap8, rfl, hg8, hg8s⟩ : ∃ g cap, v8 = .slice (some ⟨g, 0, none⟩) (aftUp k l v false i).length cap ∧ NB ≤ g ∧ g < w41.heap.size := by rcases hO8.form with ⟨_, h0⟩ | h; rw [h0] at hq8; cases hq8; exact h
        have hne9 : ¬ b9 = g8 := fun e => ap_hO8_hO9 g8 rfl (by rw [e]; rfl)
        have kg8' := hO8.asCells; rw [HA.out] at kg8'; have sl8' := sl8; rw [HA.out] at sl8'; clear sl8; have sl8 := sl8'; clear sl8' hO8; have kg8 := kg8'; clear kg8'; have qg8 := kg8.1
        repeat ((fail_if_success refine stp ?_); with_reducible go_step)
        refine region_F ?_
        iterate 4 refine pl ?_
        refine listF_abs (fun s119 z' => ?_); replace sl1 := gs 1 z' sl1; replace sl2 := gs 2 z' sl2; replace sl8 := gs 8 z' sl8; replace sl9 := gs 9 z' sl9; replace sl11 := gs 11 z' sl11; have sl18 := gu 18 z'; clear z' sl109; refine listF_nil ?_
        repeat ((fail_if_success refine stp ?_); with_reducible go_step)
        refine region_F ?_
        iterate 7 refine pl ?_
        have cV_0 := kV.cell 0 rfl; have cV_1 := kV.cell 1 rfl; have cV_2 := kV.cell 2 rfl; have cV_3 := kV.cell 3 rfl; have cV_4 := kV.cell 4 rfl; have cV_5 := kV.cell 5 rfl; have cV_6 := kV.cell 6 rfl; have zV := kV.2.2; refine pl ?_; refine listF_absw (fun w120 hw' => ?_); have kV' := cells_of hw' (Cells.set (i := 5) (Cells.set (i := 4) (kV)))
        (try simp only [vC, List.set_cons_zero, List.set_cons_succ] at kV')
        have hb121 : OldB [V] w41 w120 := oldset hw'; clear hw'; clear cV_0 cV_1 cV_2 cV_3 cV_4 cV_5 cV_6 zV; clear qb4 qV qb14 qg8; replace kV := kV'; replace kb4 := kb4.oldB hb121 (by first | (simp; done) | (simp; omega)); replace kb14 := kb14.oldB hb121 (by first | (simp; done) | (simp; omega)); replace kg8 := kg8.oldB hb121 (by first | (simp; done) | (simp; omega)); replace hr9 := Rd.oldB hr9 hb121 (fun b hb => by have h9 := Hn9.out b hb; cases hb; (try simp at h9); first | (simp; done) | (simp; omega)); replace HB := hid (HB.out.more hb121 (by simp; try omega)); clear hb121; have qb4 := kb4.1; have qV := kV.1; have qb14 := kb14.1; have qg8 := kg8.1; clear kV'; refine listF_abs (fun s122 z' => ?_); replace sl2 := gs 2 z' sl2; replace sl8 := gs 8 z' sl8; replace sl9 := gs 9 z' sl9; replace sl11 := gs 11 z' sl11; replace sl18 := gs 18 z' sl18; clear z' sl1; refine listF_nil ?_
        repeat ((fail_if_success refine stp ?_); with_reducible go_step)
        refine region_F ?_
        iterate 4 refine pl ?_
        refine listF_step rfl (fun K' hK => ?_); unfold opF; go_simp; refine (result_any V k a c l[q] 0 v false _ kV (Rd.oldB HR.out HB.out (by simp)) HK.out Hv.out).mono ?_; rintro e w123 ⟨rfl, hb124⟩; refine ⟨_, rfl, hK _ _ ?_⟩; clear hK K'; clear qb4 qV qb14 qg8; replace kb4 := kb4.at hb124; replace kV := kV.at hb124; replace kb14 := kb14.at hb124; replace kg8 := kg8.at hb124; replace hr9 := Rd.at hr9 hb124; replace HB := hid (HB.out.below hb124); clear hb124; have qb4 := kb4.1; have qV := kV.1; have qb14 := kb14.1; have qg8 := kg8.1; refine pl ?_; have zg8 := kg8.2.2; obtain ⟨u0, u1⟩ := flat_cells2 kg8 hq; refine pl ?_; refine listF_absw ?_; intro w125 hw'; have kg8' := cells_of hw' (Cells.set (Cells.set (kg8))); rw [flat_set2 _ l q hq] at kg8'; have hb126 : OldB [g8] w123 w125 := oldset hw'; clear hw'; clear zg8; clear qb4 qV qb14 qg8; replace kg8 := kg8'; replace kb4 := kb4.oldB hb126 (by first | (simp; done) | (simp; omega)); replace kV := kV.oldB hb126 (by first | (simp; done) | (simp; omega))
        replace kb14 := kb14.oldB hb126 (by first | (simp; done) | (simp; omega)); replace hr9 := Rd.oldB hr9 hb126 (fun b hb => by have h9 := Hn9.out b hb; cases hb; (try simp at h9); first | (simp; done) | (simp; omega)); replace HB := hid (HB.out.more hb126 (by simp; try omega)); clear hb126; have qb4 := kb4.1; have qV := kV.1; have qb14 := kb14.1; have qg8 := kg8.1; clear kg8'; refine listF_abs (fun s127 z' => ?_); replace sl8 := gs 8 z' sl8; replace sl9 := gs 9 z' sl9; clear z' sl2 sl11 sl18; refine listF_nil ?_
        repeat ((fail_if_success refine stp ?_); with_reducible go_step)
        refine region_F ?_
        iterate 5 refine pl ?_
        refine listF_abs (fun s128 z' => ?_); replace sl8 := gu 8 z'; replace sl9 := gu 9 z'; have sl10 := gu 10 z'; clear z'; refine listF_nil ?_
        repeat ((fail_if_success refine stp ?_); with_reducible go_step)
        refine ret_F _ (res_ttt Try.results31 ((getD_F (by decide)).trans sl8) ((getD_F (by decide)).trans sl9) ((getD_F (by decide)).trans sl10)) ?_; have Hgr := hid (show grpRes k l v false = (aftOf k l v false, susUp (needed k v) l l.length, 0) by unfold grpRes; rw [if_neg (by rw [Her.out]; decide), if_neg Hdn.out]; rfl); have Haf := hid (show aftOf k l v false = l.set q (agreed k l[q] v false) by unfold aftOf; rw [Hsq.out]; show l.set (q : Int).toNat (agreed k (l.getD (q : Int).toNat Span.zero) v false) = _; rw [Int.toNat_natCast, getD_get hq]); have kg9 : Cells w125 g8 ((l.set q (agreed k l[q] v false)).flatMap Span.cs) := kg8; exact ⟨some ⟨g8, 0, none⟩, cap8, some ⟨b9, o9, none⟩, c9, by rw [Hgr.out, Haf.out, Hsq.out]; simp, by rw [Hgr.out, Haf.out]; exact Cells.rd (f := Span.cs) (m := 2) (fun _ => rfl) kg9, by rw [Hgr.out, Hsq.out]; exact hr9, HB.out.toBelow, (fun b hb => by cases hb; simp; omega), (fun b hb => by have := Hn9.out b hb; omega)⟩
       ·skip
        have H109 := hid (show ¬ (susUp (needed k v) l l.length).length = 1 by have : ¬ ((susUp (needed k v) l l.length).length : Int) = 1 := (by simpa using h109); omega); obtain ⟨a8, c8, rfl, hr8, hn8⟩ := Own.slice (f := Span.cs) (m := 2) (fun _ => rfl) hO8; have Hn8 := hid hn8; rw [HA.out] at hr8
        repeat ((fail_if_success refine stp ?_); with_reducible go_step)
        refine region_F ?_
        iterate 5 refine pl ?_
        refine listF_abs (fun s129 z' => ?_); replace sl8 := gu 8 z'; replace sl9 := gu 9 z'; have sl10 := gu 10 z'; clear z' sl1 sl2 sl11 sl109; refine listF_nil ?_
        repeat ((fail_if_success refine stp ?_); with_reducible go_step)
        refine ret_F _ (res_ttt Try.results31 ((getD_F (by decide)).trans sl8) ((getD_F (by decide)).trans sl9) ((getD_F (by decide)).trans sl10)) ?_; have Hgr := hid (show grpRes k l v false = (aftOf k l v false, susUp (needed k v) l l.length, 0) by unfold grpRes; rw [if_neg (by rw [Her.out]; decide), if_neg Hdn.out]; rfl); have Haf := hid (show aftOf k l v false = l by unfold aftOf; have := H109.out; simp only [Bool.false_eq_true, if_false]; split <;> first | rfl | (rename_i hz; rw [hz] at this; exact absurd rfl this)); exact ⟨a8, c8, a9, c9, by rw [Hgr.out, Haf.out]; simp only; rw [HA.out], by rw [Hgr.out, Haf.out]; exact hr8, by rw [Hgr.out]; exact hr9, HB.out.toBelow, (fun b hb => by have := Hn8.out b hb; omega), (fun b hb => by have := Hn9.out b hb; omega)⟩
 ·skip
  have He := hid he
  have he1 : (kdErr k != 0) = true := by simpa using he
  clear he; refine listF_step rfl (fun K' hK => ?_); unfold opF; go_simp; refine (open_bad k a c _ HN.out hsl (Rd.oldB HR.out HB.out (by simp)) He.out).mono ?_; rintro e w130 ⟨rfl, hb131⟩; refine ⟨_, rfl, hK _ _ ?_⟩; clear hK K'; clear cb4_0 cb4_1 cb4_2 cb4_3; clear qb4; replace kb4 := kb4.at hb131; replace HB := hid (HB.out.below hb131); clear hb131; have qb4 := kb4.1
  iterate 5 refine pl ?_
  refine listF_abs (fun s132 z' => ?_); replace sl1 := gs 1 z' sl1; replace sl2 := gs 2 z' sl2; replace sl3 := gs 3 z' sl3; replace sl8 := gs 8 z' sl8; replace sl9 := gs 9 z' sl9; have sl10 := gu 10 z'; have sl11 := gu 11 z'; clear z' sl4; refine listF_nil ?_
  repeat ((fail_if_success refine stp ?_); with_reducible go_step)
  refine region_F ?_
  iterate 3 refine pl ?_
  refine listF_abs (fun s133 z' => ?_); replace sl1 := gs 1 z' sl1; replace sl2 := gs 2 z' sl2; replace sl3 := gs 3 z' sl3; replace sl8 := gs 8 z' sl8; replace sl9 := gs 9 z' sl9; replace sl10 := gs 10 z' sl10; replace sl11 := gs 11 z' sl11; have sl24 := gu 24 z'; clear z'; refine listF_nil ?_
  repeat ((fail_if_success refine stp ?_); with_reducible go_step)
  refine cond_t ?_
  repeat ((fail_if_success refine stp ?_); with_reducible go_step)
  refine region_F ?_
  iterate 4 refine pl ?_
  refine listF_abs (fun s134 z' => ?_); replace sl8 := gu 8 z'; replace sl9 := gu 9 z'; replace sl10 := gu 10 z'; clear z' sl1 sl2 sl3 sl11 sl24; refine listF_nil ?_
  repeat ((fail_if_success refine stp ?_); with_reducible go_step)
  refine ret_F _ (res_ttt Try.results31 ((getD_F (by decide)).trans sl8) ((getD_F (by decide)).trans sl9) ((getD_F (by decide)).trans sl10)) ?_; have Her := hid (show grpErr k l v = kdErr k by unfold grpErr; rw [if_pos He.out]); have Hr := hid (show ∀ p, grpRes k l v p = ([], [], kdErr k) from fun p => by unfold grpRes; rw [if_pos (by rw [Her.out]; exact He.out), Her.out]); exact grp_no (Hr.out _) HB.out.toBelow

end Go.Proofs.Ytndcmmghgljinaa
