/- Replace: the program's. -/
import Derived.Test.YtndcmmghgljinaaW39
set_option linter.all false
namespace Go.Proofs.Ytndcmmghgljinaa
open Go.RowKit


abbrev LLI := List (List Int)
theorem nodup_ne {l : List Nat} (h : l.Nodup) {i j : Nat} (hi : i < l.length) (hj : j < l.length) (hn : i ≠ j) : l.getD i 0 ≠ l.getD j 0 := by
  rw [getD_get hi, getD_get hj]
  intro e
  exact hn ((List.getElem_inj h).1 e)
theorem nodup_snoc {l : List Nat} {x : Nat} (h : l.Nodup) (hx : x ∉ l) : (l ++ [x]).Nodup := by
  rw [List.nodup_append]
  exact ⟨h, by simp, fun a ha b hb => by simp at hb; subst hb; exact fun e => hx (e ▸ ha)⟩
theorem rd_lt {α : Type} {f : α → List Value} {m : Nat} {w : World} {a : Option Addr} {l : List α} (h : Rd f m w a l) {b : Addr} (hb : a = some b) (hl : l ≠ []) : b.block < w.heap.size := by
  rcases h with h | ⟨b', off, ha, hlt, _⟩
  · exact absurd h hl
  · rw [ha] at hb; cases hb; exact hlt
theorem plan_shut {base b : Nat} {av Ds : List Nat} {w : World} {xs : List Sl} (h : PlanO base av w xs) (hb : Cells w b (xs.flatMap Sl.cs)) (hd : DefO Ds w) (hn : b ∉ Ds) : RdPlan (shut Ds w) (some ⟨b, 0, none⟩) xs := by
  have h2 : PlanO base av (shut Ds w) xs := h.kept fun i hi g hg => shut_block Ds w g (fun hm => own_obj (h.own i hi) (hd g hm) rfl hg)
  exact h2.plan (hb.shut hn)

set_option maxRecDepth 100000 in
set_option maxHeartbeats 32000000 in
theorem qreplace_any (ar : Option Addr) (cr : Nat) (rack : List Vl) (an : Option Addr) (cn : Nat) (l : List Int) (f u : Int) (w : World) (hR : RdRack w ar rack) (hRl : RdInts w an l) (hlr : rack.length ≤ 9223372036854775807) (hll : l.length ≤ 9223372036854775807) :
    Calls Try.prog 35 #[.slice ar rack.length cr, .slice an l.length cn, .int .i64 f, .int .i64 u] w (RepRes rack l f u w) := by
 have HR := hid hR
 have HRl := hid hRl
 clear hR hRl
 obtain ⟨i0, hi0, hz0, hy0, hx0⟩ := info_parts info_ptr
 obtain ⟨i1, hi1, hz1, hy1, hx1⟩ := info_parts info_int
 obtain ⟨i2, hi2, hz2, hy2, hx2⟩ := info_parts info_sl
 have hmf := hmf
 refine enterM_F Try.func35 rfl Try.ntmps35 (by simp) ?_
 intro s0 hs
 have sl0 : s0 0 = .slice ar rack.length cr := hs 0 (by simp)
 have sl1 : s0 1 = .slice an l.length cn := hs 1 (by simp)
 have sl2 : s0 2 = .int .i64 f := hs 2 (by simp)
 have sl3 : s0 3 = .int .i64 u := hs 3 (by simp)
 clear hs
 have HB := hid (OldB.refl [] w)
 repeat ((fail_if_success refine stp ?_); with_reducible go_step)
 refine region_F ?_
 refine pa (fun w1 B8 hB kb8' hb2 => ?_)
 have gb8 := HB.out.gB hB
 have eb8 := eB hB; clear hB
 replace HB := hid (HB.out.below hb2)
 clear hb2
 have kb8 := kb8'
 clear kb8'
 have qb8 := kb8.1
 refine pa (fun w3 B9 hB kb9' hb4 => ?_)
 have gb9 := HB.out.gB hB
 have ob8_b9 := oB qb8 hB
 have eb9 := eB hB; clear hB
 clear qb8
 replace kb8 := kb8.at hb4
 replace HB := hid (HB.out.below hb4)
 clear hb4
 have qb8 := kb8.1
 have kb9 := kb9'
 clear kb9'
 have qb9 := kb9.1
 refine listF_abs (fun s5 hs' => ?_)
 replace sl0 := gs 0 hs' sl0; replace sl1 := gs 1 hs' sl1; replace sl2 := gs 2 hs' sl2; replace sl3 := gs 3 hs' sl3; have sl8 := gu 8 hs'; have sl9 := gu 9 hs'
 clear hs'
 refine listF_nil ?_
 repeat ((fail_if_success refine stp ?_); with_reducible go_step)
 refine region_yield (k := 1) (by kernel_rfl) ?_
 simp only [List.take_succ_cons, List.take_zero, List.drop_succ_cons, List.drop_zero]
 refine pl ?_
 refine listF_abs (fun s6 hs' => ?_)
 replace sl0 := gs 0 hs' sl0; replace sl1 := gs 1 hs' sl1; replace sl2 := gs 2 hs' sl2; replace sl3 := gs 3 hs' sl3; replace sl8 := gs 8 hs' sl8; replace sl9 := gs 9 hs' sl9
 have sl18 := gu 18 hs'; clear hs'
 refine listF_nil ?_
 refine defer_in (d := repD B8 B9) (w' := w3) (by unfold Oper.semAt; go_simp; rfl) ?_
 refine wpListIn_nil ?_
 clear hmf
 repeat ((fail_if_success refine stp ?_); with_reducible go_step)
 have hj9_0 := hid sl0
 have hj9_1 := hid sl1
 have hj9_2 := hid sl2
 have hj9_3 := hid sl3
 have hj9_8 := hid sl8
 have hj9_9 := hid sl9
 refine cut_any (fun sJ wJ => sJ 19 = .bool (decide (12 < rack.length) || decide (20 < l.length)) ∧ sJ 0 = s6 0 ∧ sJ 1 = s6 1 ∧ sJ 2 = s6 2 ∧ sJ 3 = s6 3 ∧ sJ 8 = s6 8 ∧ sJ 9 = s6 9 ∧ OldB [] w3 wJ) ?_ ?_
 ·skip
  have HL10 := hid (OldB.refl [] w3)
  refine region_F ?_
  refine pl ?_
  refine pl ?_
  refine pl ?_
  refine pl ?_
  refine listF_abs (fun s11 hs' => ?_)
  replace sl0 := gs 0 hs' sl0; replace sl1 := gs 1 hs' sl1; replace sl2 := gs 2 hs' sl2; replace sl3 := gs 3 hs' sl3; replace sl8 := gs 8 hs' sl8; replace sl9 := gs 9 hs' sl9
  have sl23 := gu 23 hs'; clear hs' sl18
  refine boolG sl23 (fun sl23' h23 => ?_) (fun sl23' h23 => ?_) <;> (clear sl23; have sl23 := sl23'; clear sl23')
  ·skip
   refine pn true ?_
   refine pn true ?_
   refine pn true ?_
   refine pl ?_
   refine pl ?_
   refine listF_abs (fun s12 hs' => ?_)
   replace sl0 := gs 0 hs' sl0; replace sl1 := gs 1 hs' sl1; replace sl2 := gs 2 hs' sl2; replace sl3 := gs 3 hs' sl3; replace sl8 := gs 8 hs' sl8; replace sl9 := gs 9 hs' sl9
   have sl19 := gu 19 hs'; clear hs' sl23
   refine listF_nil ?_
   repeat ((fail_if_success refine stp ?_); with_reducible go_step)
   exact ⟨rfl, _, rfl, (by have h := h23; simp at h; rw [sl19]; simp; omega), (sl0.trans hj9_0.out.symm), (sl1.trans hj9_1.out.symm), (sl2.trans hj9_2.out.symm), (sl3.trans hj9_3.out.symm), (sl8.trans hj9_8.out.symm), (sl9.trans hj9_9.out.symm), HL10.out⟩
  ·skip
   refine py ?_
   refine py ?_
   refine py ?_
   refine pl ?_
   refine pl ?_
   refine listF_abs (fun s13 hs' => ?_)
   replace sl0 := gs 0 hs' sl0; replace sl1 := gs 1 hs' sl1; replace sl2 := gs 2 hs' sl2; replace sl3 := gs 3 hs' sl3; replace sl8 := gs 8 hs' sl8; replace sl9 := gs 9 hs' sl9
   have sl19 := gu 19 hs'; clear hs' sl23
   refine listF_nil ?_
   repeat ((fail_if_success refine stp ?_); with_reducible go_step)
   exact ⟨rfl, _, rfl, (by have h := h23; simp at h; rw [sl19]; simp [show ¬ 12 < rack.length by omega]; try omega), (sl0.trans hj9_0.out.symm), (sl1.trans hj9_1.out.symm), (sl2.trans hj9_2.out.symm), (sl3.trans hj9_3.out.symm), (sl8.trans hj9_8.out.symm), (sl9.trans hj9_9.out.symm), HL10.out⟩
 ·skip
  clear sl18
  rintro s14 w15 ⟨sl19, e0, e1, e2, e3, e8, e9, hb16⟩
  replace sl0 := e0.trans sl0; clear e0 hj9_0
  replace sl1 := e1.trans sl1; clear e1 hj9_1
  replace sl2 := e2.trans sl2; clear e2 hj9_2
  replace sl3 := e3.trans sl3; clear e3 hj9_3
  replace sl8 := e8.trans sl8; clear e8 hj9_8
  replace sl9 := e9.trans sl9; clear e9 hj9_9
  clear qb8 qb9
  replace kb8 := kb8.oldB hb16 (by first | (simp; done) | (simp; omega))
  replace kb9 := kb9.oldB hb16 (by first | (simp; done) | (simp; omega))
  replace HB := hid (HB.out.more hb16 (by simp; try omega))
  clear hb16
  have qb8 := kb8.1
  have qb9 := kb9.1
  repeat ((fail_if_success refine stp ?_); with_reducible go_step)
  refine cond_E sl19 (by decide) ?_ ?_ <;> (clear sl19; intro h19 sl19)
  ·skip
   have H3 := hid (show 12 < rack.length ∨ 20 < l.length by simpa using h19)
   have He := hid (show repErr rack l f u = 3 by unfold repErr; rw [if_pos H3.out])
   have Hr := hid (show repRes rack l f u = ([], 3) by unfold repRes; rw [if_pos (by rw [He.out]; decide), He.out])
   repeat ((fail_if_success refine stp ?_); with_reducible go_step)
   refine region_F ?_
   have cb8_0 := kb8.cell 0 rfl
   have zb8 := kb8.2.2
   refine pl ?_
   refine listF_absw (fun w17 hw' => ?_)
   have kb8' := cells_of hw' (Cells.set (i := 0) (kb8))
   (try simp only [vC, List.set_cons_zero, List.set_cons_succ] at kb8')
   have hb18 : OldB [B8] w15 w17 := oldset hw'
   clear hw'
   clear cb8_0 zb8
   clear qb8 qb9
   replace kb8 := kb8'
   replace kb9 := kb9.oldB hb18 (by first | (simp; done) | (simp; omega))
   replace HB := hid (HB.out.more hb18 (by simp; try omega))
   clear hb18
   have qb8 := kb8.1
   have qb9 := kb9.1
   clear kb8'
   have cb9_0 := kb9.cell 0 rfl
   have zb9 := kb9.2.2
   refine pl ?_
   refine listF_absw (fun w19 hw' => ?_)
   have kb9' := cells_of hw' (Cells.set (i := 0) (kb9))
   (try simp only [vC, List.set_cons_zero, List.set_cons_succ] at kb9')
   have hb20 : OldB [B9] w17 w19 := oldset hw'
   clear hw'
   clear cb9_0 zb9
   clear qb8 qb9
   replace kb9 := kb9'
   replace kb8 := kb8.oldB hb20 (by first | (simp; done) | (simp; omega))
   replace HB := hid (HB.out.more hb20 (by simp; try omega))
   clear hb20
   have qb8 := kb8.1
   have qb9 := kb9.1
   clear kb9'
   refine listF_abs (fun s21 hs' => ?_)
   replace sl8 := gs 8 hs' sl8; replace sl9 := gs 9 hs' sl9; clear hs' sl0 sl1 sl2 sl3 sl19
   refine listF_nil ?_
   repeat ((fail_if_success refine stp ?_); with_reducible go_step)
   exact rep_leave_ret (Ds := []) (by decide) sl8 sl9 (by simp) (by simp) kb8 kb9 (by simp) (by simp) rfl (rep_no Hr.out HB.out.toBelow)
  ·skip
   have h3 : ¬ (12 < rack.length ∨ 20 < l.length) := by simp at h19; omega
   have hl12 : rack.length ≤ 12 := by omega
   have hl20 : l.length ≤ 20 := by omega
   have H3 := hid h3
   clear h3
   repeat ((fail_if_success refine stp ?_); with_reducible go_step)
   have hj22_0 := hid sl0
   have hj22_1 := hid sl1
   have hj22_2 := hid sl2
   have hj22_3 := hid sl3
   have hj22_8 := hid sl8
   have hj22_9 := hid sl9
   refine cut_any (fun sJ wJ => sJ 28 = .bool (outB 100000 l || outB 100000 [f, u]) ∧ sJ 0 = s14 0 ∧ sJ 1 = s14 1 ∧ sJ 2 = s14 2 ∧ sJ 3 = s14 3 ∧ sJ 8 = s14 8 ∧ sJ 9 = s14 9 ∧ OldB [] w15 wJ) ?_ ?_
   ·skip
    have HL23 := hid (OldB.refl [] w15)
    refine region_F ?_
    refine pl ?_
    refine listF_step rfl (fun K' hK => ?_); unfold opF; go_simp
    refine (out_any 100000 an cn l _ hll (Rd.oldB HRl.out HB.out (by simp))).mono ?_; rintro e w24 ⟨rfl, hb25⟩
    refine ⟨_, rfl, hK _ _ ?_⟩; clear hK K'
    clear qb8 qb9
    replace kb8 := kb8.at hb25
    replace kb9 := kb9.at hb25
    replace HL23 := hid (HL23.out.below hb25)
    replace HB := hid (HB.out.below hb25)
    clear hb25
    have qb8 := kb8.1
    have qb9 := kb9.1
    refine pl ?_
    refine listF_abs (fun s26 hs' => ?_)
    replace sl0 := gs 0 hs' sl0; replace sl1 := gs 1 hs' sl1; replace sl2 := gs 2 hs' sl2; replace sl3 := gs 3 hs' sl3; replace sl8 := gs 8 hs' sl8; replace sl9 := gs 9 hs' sl9
    have sl31 := gu 31 hs'; clear hs' sl19
    refine boolG sl31 (fun sl31' h31 => ?_) (fun sl31' h31 => ?_) <;> (clear sl31; have sl31 := sl31'; clear sl31')
    ·skip
     refine pn true ?_
     refine pn true ?_
     refine pn true ?_
     refine pn true ?_
     refine pl ?_
     refine pl ?_
     refine listF_abs (fun s27 hs' => ?_)
     replace sl0 := gs 0 hs' sl0; replace sl1 := gs 1 hs' sl1; replace sl2 := gs 2 hs' sl2; replace sl3 := gs 3 hs' sl3; replace sl8 := gs 8 hs' sl8; replace sl9 := gs 9 hs' sl9
     have sl28 := gu 28 hs'; clear hs' sl31
     refine listF_nil ?_
     repeat ((fail_if_success refine stp ?_); with_reducible go_step)
     exact ⟨rfl, _, rfl, (by rw [sl28]; simp [h31]), (sl0.trans hj22_0.out.symm), (sl1.trans hj22_1.out.symm), (sl2.trans hj22_2.out.symm), (sl3.trans hj22_3.out.symm), (sl8.trans hj22_8.out.symm), (sl9.trans hj22_9.out.symm), HL23.out⟩
    ·skip
     refine py ?_
     refine py ?_
     refine pasy (fun w28 B34 hB kb34' hb29 => ?_)
     have gb34 := HB.out.gB hB
     have lHL23_b34 := HL23.out.gB hB
     have ob8_b34 := oB qb8 hB
     have ob9_b34 := oB qb9 hB
     have eb34 := eB hB; clear hB
     clear qb8 qb9
     replace kb8 := kb8.at hb29
     replace kb9 := kb9.at hb29
     replace HL23 := hid (HL23.out.below hb29)
     replace HB := hid (HB.out.below hb29)
     clear hb29
     have qb8 := kb8.1
     have qb9 := kb9.1
     have kb34 := kb34'
     clear kb34'
     have qb34 := kb34.1
     refine listF_yes rfl rfl (by decide) ?_ (fun K' hK => ?_); (focus (go_simp; done)); unfold opF; go_simp
     refine (out_any 100000 _ _ [f, u] _ (by simp) (rd2 kb34)).mono ?_; rintro e w30 ⟨rfl, hb31⟩
     refine ⟨_, rfl, hK _ _ ?_⟩; clear hK K'
     clear qb8 qb9 qb34
     replace kb8 := kb8.at hb31
     replace kb9 := kb9.at hb31
     replace kb34 := kb34.at hb31
     replace HL23 := hid (HL23.out.below hb31)
     replace HB := hid (HB.out.below hb31)
     clear hb31
     have qb8 := kb8.1
     have qb9 := kb9.1
     have qb34 := kb34.1
     refine pl ?_
     refine pl ?_
     refine listF_abs (fun s32 hs' => ?_)
     replace sl0 := gs 0 hs' sl0; replace sl1 := gs 1 hs' sl1; replace sl2 := gs 2 hs' sl2; replace sl3 := gs 3 hs' sl3; replace sl8 := gs 8 hs' sl8; replace sl9 := gs 9 hs' sl9
     have sl28 := gu 28 hs'; clear hs' sl31
     refine listF_nil ?_
     repeat ((fail_if_success refine stp ?_); with_reducible go_step)
     exact ⟨rfl, _, rfl, (by rw [sl28]; simp [h31]), (sl0.trans hj22_0.out.symm), (sl1.trans hj22_1.out.symm), (sl2.trans hj22_2.out.symm), (sl3.trans hj22_3.out.symm), (sl8.trans hj22_8.out.symm), (sl9.trans hj22_9.out.symm), HL23.out⟩
   ·skip
    clear sl19
    rintro s33 w34 ⟨sl28, e0, e1, e2, e3, e8, e9, hb35⟩
    replace sl0 := e0.trans sl0; clear e0 hj22_0
    replace sl1 := e1.trans sl1; clear e1 hj22_1
    replace sl2 := e2.trans sl2; clear e2 hj22_2
    replace sl3 := e3.trans sl3; clear e3 hj22_3
    replace sl8 := e8.trans sl8; clear e8 hj22_8
    replace sl9 := e9.trans sl9; clear e9 hj22_9
    clear qb8 qb9
    replace kb8 := kb8.oldB hb35 (by first | (simp; done) | (simp; omega))
    replace kb9 := kb9.oldB hb35 (by first | (simp; done) | (simp; omega))
    replace HB := hid (HB.out.more hb35 (by simp; try omega))
    clear hb35
    have qb8 := kb8.1
    have qb9 := kb9.1
    repeat ((fail_if_success refine stp ?_); with_reducible go_step)
    refine cond_E sl28 (by decide) ?_ ?_ <;> (clear sl28; intro h28 sl28)
    ·skip
     have H7 := hid (show l.any (fun n => !inb n 0 100000) = true ∨ inb f 0 100000 = false ∨ inb u 0 100000 = false by have h := h28; simp only [Bool.or_eq_true] at h; rcases h with h | h; exact .inl h; (rw [out2] at h; right; cases h1 : inb f 0 100000 <;> cases h2 : inb u 0 100000 <;> simp_all))
     have He := hid (show repErr rack l f u = 7 by unfold repErr; rw [if_neg H3.out, if_pos H7.out])
     have Hr := hid (show repRes rack l f u = ([], 7) by unfold repRes; rw [if_pos (by rw [He.out]; decide), He.out])
     repeat ((fail_if_success refine stp ?_); with_reducible go_step)
     refine region_F ?_
     have cb8_0 := kb8.cell 0 rfl
     have zb8 := kb8.2.2
     refine pl ?_
     refine listF_absw (fun w36 hw' => ?_)
     have kb8' := cells_of hw' (Cells.set (i := 0) (kb8))
     (try simp only [vC, List.set_cons_zero, List.set_cons_succ] at kb8')
     have hb37 : OldB [B8] w34 w36 := oldset hw'
     clear hw'
     clear cb8_0 zb8
     clear qb8 qb9
     replace kb8 := kb8'
     replace kb9 := kb9.oldB hb37 (by first | (simp; done) | (simp; omega))
     replace HB := hid (HB.out.more hb37 (by simp; try omega))
     clear hb37
     have qb8 := kb8.1
     have qb9 := kb9.1
     clear kb8'
     have cb9_0 := kb9.cell 0 rfl
     have zb9 := kb9.2.2
     refine pl ?_
     refine listF_absw (fun w38 hw' => ?_)
     have kb9' := cells_of hw' (Cells.set (i := 0) (kb9))
     (try simp only [vC, List.set_cons_zero, List.set_cons_succ] at kb9')
     have hb39 : OldB [B9] w36 w38 := oldset hw'
     clear hw'
     clear cb9_0 zb9
     clear qb8 qb9
     replace kb9 := kb9'
     replace kb8 := kb8.oldB hb39 (by first | (simp; done) | (simp; omega))
     replace HB := hid (HB.out.more hb39 (by simp; try omega))
     clear hb39
     have qb8 := kb8.1
     have qb9 := kb9.1
     clear kb9'
     refine listF_abs (fun s40 hs' => ?_)
     replace sl8 := gs 8 hs' sl8; replace sl9 := gs 9 hs' sl9; clear hs' sl0 sl1 sl2 sl3 sl28
     refine listF_nil ?_
     repeat ((fail_if_success refine stp ?_); with_reducible go_step)
     exact rep_leave_ret (Ds := []) (by decide) sl8 sl9 (by simp) (by simp) kb8 kb9 (by simp) (by simp) rfl (rep_no Hr.out HB.out.toBelow)
    ·skip
     have h28' : outB 100000 l = false ∧ outB 100000 [f, u] = false := by simpa using h28
     obtain ⟨⟨hf1, hf2⟩, hu1, hu2⟩ := out2_f h28'.2
     have H7 := hid (show ¬ (l.any (fun n => !inb n 0 100000) = true ∨ inb f 0 100000 = false ∨ inb u 0 100000 = false) by rintro (h | h | h); exact absurd h (by rw [show l.any (fun n => !inb n 0 100000) = false from h28'.1]; decide); exact absurd h (by rw [(inb_iff _ _ _).2 ⟨hf1, hf2⟩]; decide); exact absurd h (by rw [(inb_iff _ _ _).2 ⟨hu1, hu2⟩]; decide))
     have Hnb := hid (show ∀ x ∈ l, 0 ≤ x ∧ x ≤ 100000 from fun x hx => by have h := h28'.1; unfold outB at h; rw [List.any_eq_false] at h; have := h x hx; simp at this; exact (inb_iff _ _ _).1 this)
     clear h28'
     repeat ((fail_if_success refine stp ?_); with_reducible go_step)
     have hj41_0 := hid sl0
     have hj41_1 := hid sl1
     have hj41_2 := hid sl2
     have hj41_3 := hid sl3
     have hj41_8 := hid sl8
     have hj41_9 := hid sl9
     refine cut_any (fun sJ wJ => sJ 37 = .bool (!(ndec l) || dups l || decide (u < f)) ∧ sJ 0 = s33 0 ∧ sJ 1 = s33 1 ∧ sJ 2 = s33 2 ∧ sJ 3 = s33 3 ∧ sJ 8 = s33 8 ∧ sJ 9 = s33 9 ∧ OldB [] w34 wJ) ?_ ?_
     ·skip
      have HL42 := hid (OldB.refl [] w34)
      refine region_F ?_
      refine pl ?_
      refine listF_step rfl (fun K' hK => ?_); unfold opF; go_simp
      refine (issorted_any an cn l _ (Rd.oldB HRl.out HB.out (by simp)) (by omega)).mono ?_; rintro e w43 ⟨rfl, hb44⟩
      refine ⟨_, rfl, hK _ _ ?_⟩; clear hK K'
      clear qb8 qb9
      replace kb8 := kb8.at hb44
      replace kb9 := kb9.at hb44
      replace HL42 := hid (HL42.out.below hb44)
      replace HB := hid (HB.out.below hb44)
      clear hb44
      have qb8 := kb8.1
      have qb9 := kb9.1
      refine pl ?_
      refine pl ?_
      refine listF_abs (fun s45 hs' => ?_)
      replace sl0 := gs 0 hs' sl0; replace sl1 := gs 1 hs' sl1; replace sl2 := gs 2 hs' sl2; replace sl3 := gs 3 hs' sl3; replace sl8 := gs 8 hs' sl8; replace sl9 := gs 9 hs' sl9
      have sl41 := gu 41 hs'; clear hs' sl28
      refine boolG sl41 (fun sl41' h41 => ?_) (fun sl41' h41 => ?_) <;> (clear sl41; have sl41 := sl41'; clear sl41')
      ·skip
       refine pn true ?_
       refine pn true ?_
       refine pn true ?_
       refine pn true ?_
       refine pn true ?_
       refine pn true ?_
       refine pn true ?_
       refine pl ?_
       refine pl ?_
       refine pn true ?_
       refine pn true ?_
       refine pn true ?_
       refine pl ?_
       refine pl ?_
       refine listF_abs (fun s46 hs' => ?_)
       replace sl0 := gs 0 hs' sl0; replace sl1 := gs 1 hs' sl1; replace sl2 := gs 2 hs' sl2; replace sl3 := gs 3 hs' sl3; replace sl8 := gs 8 hs' sl8; replace sl9 := gs 9 hs' sl9
       have sl37 := gu 37 hs'; clear hs' sl41
       refine listF_nil ?_
       repeat ((fail_if_success refine stp ?_); with_reducible go_step)
       exact ⟨rfl, _, rfl, (by have h := h41; simp at h; rw [sl37]; simp [h]), (sl0.trans hj41_0.out.symm), (sl1.trans hj41_1.out.symm), (sl2.trans hj41_2.out.symm), (sl3.trans hj41_3.out.symm), (sl8.trans hj41_8.out.symm), (sl9.trans hj41_9.out.symm), HL42.out⟩
      ·skip
       refine py ?_
       obtain ⟨NC, hNC⟩ : ∃ n, n = w43.heap.size := ⟨_, rfl⟩
       have uNC := HB.out.gB hNC
       have uNC_b8 := oB qb8 hNC
       have uNC_b9 := oB qb9 hNC
       have uNC_HL42 := HL42.out.gB hNC
       refine listF_yes rfl rfl (by decide) ?_ (fun K' hK => ?_); (focus (go_simp; done)); unfold opF; go_simp
       refine (cloneInt_any an cn l _ (by omega) (Rd.oldB HRl.out HB.out (by simp))).mono ?_; rintro e w47 ⟨v43, rfl, hO43, hb48⟩
       rw [← hNC] at hO43
       have hNC2 : NC ≤ w47.heap.size := by have := hb48.size; omega
       clear hNC
       refine ⟨_, rfl, hK _ _ ?_⟩; clear hK K'
       clear qb8 qb9
       replace kb8 := kb8.at hb48
       replace kb9 := kb9.at hb48
       replace HL42 := hid (HL42.out.below hb48)
       replace HB := hid (HB.out.below hb48)
       clear hb48
       have qb8 := kb8.1
       have qb9 := kb9.1
       refine listF_yes rfl rfl (by decide) ?_ (fun K' hK => ?_); (focus (go_simp; done)); unfold opF; go_simp
       refine (compact_own v43 l NC _ hO43 (by omega) hNC2).mono ?_; rintro e w49 ⟨a44, n44, c44, rfl, hd44, hn44, hb50⟩
       have Hd44 := hid hd44
       clear hd44
       refine ⟨_, rfl, hK _ _ ?_⟩; clear hK K'
       clear qb8 qb9
       replace kb8 := kb8.lowB hb50 uNC_b8
       replace kb9 := kb9.lowB hb50 uNC_b9
       replace HL42 := hid (HL42.out.lowB hb50 uNC_HL42)
       replace HB := hid (HB.out.lowB hb50 uNC)
       clear hb50
       have qb8 := kb8.1
       have qb9 := kb9.1
       refine py ?_
       refine py ?_
       refine py ?_
       refine py ?_
       refine pl ?_
       refine pl ?_
       refine listF_abs (fun s51 hs' => ?_)
       replace sl0 := gs 0 hs' sl0; replace sl1 := gs 1 hs' sl1; replace sl2 := gs 2 hs' sl2; replace sl3 := gs 3 hs' sl3; replace sl8 := gs 8 hs' sl8; replace sl9 := gs 9 hs' sl9
       have sl50 := gu 50 hs'; clear hs' sl41
       refine boolG sl50 (fun sl50' h50 => ?_) (fun sl50' h50 => ?_) <;> (clear sl50; have sl50 := sl50'; clear sl50')
       ·skip
        refine pn true ?_
        refine pn true ?_
        refine pn true ?_
        refine pl ?_
        refine pl ?_
        refine listF_abs (fun s52 hs' => ?_)
        replace sl0 := gs 0 hs' sl0; replace sl1 := gs 1 hs' sl1; replace sl2 := gs 2 hs' sl2; replace sl3 := gs 3 hs' sl3; replace sl8 := gs 8 hs' sl8; replace sl9 := gs 9 hs' sl9
        have sl37 := gu 37 hs'; clear hs' sl50
        refine listF_nil ?_
        repeat ((fail_if_success refine stp ?_); with_reducible go_step)
        exact ⟨rfl, _, rfl, (by have h := h50; rw [Hd44.out] at h; have h2 := h41; simp at h2; rw [sl37]; simp [h, h2]), (sl0.trans hj41_0.out.symm), (sl1.trans hj41_1.out.symm), (sl2.trans hj41_2.out.symm), (sl3.trans hj41_3.out.symm), (sl8.trans hj41_8.out.symm), (sl9.trans hj41_9.out.symm), HL42.out⟩
       ·skip
        refine py ?_
        refine py ?_
        refine py ?_
        refine pl ?_
        refine pl ?_
        refine listF_abs (fun s53 hs' => ?_)
        replace sl0 := gs 0 hs' sl0; replace sl1 := gs 1 hs' sl1; replace sl2 := gs 2 hs' sl2; replace sl3 := gs 3 hs' sl3; replace sl8 := gs 8 hs' sl8; replace sl9 := gs 9 hs' sl9
        have sl37 := gu 37 hs'; clear hs' sl50
        refine listF_nil ?_
        repeat ((fail_if_success refine stp ?_); with_reducible go_step)
        exact ⟨rfl, _, rfl, (by have h := h50; rw [Hd44.out] at h; have h2 := h41; simp at h2; rw [sl37]; simp [h, h2]), (sl0.trans hj41_0.out.symm), (sl1.trans hj41_1.out.symm), (sl2.trans hj41_2.out.symm), (sl3.trans hj41_3.out.symm), (sl8.trans hj41_8.out.symm), (sl9.trans hj41_9.out.symm), HL42.out⟩
     ·skip
      clear sl28
      rintro s54 w55 ⟨sl37, e0, e1, e2, e3, e8, e9, hb56⟩
      replace sl0 := e0.trans sl0; clear e0 hj41_0
      replace sl1 := e1.trans sl1; clear e1 hj41_1
      replace sl2 := e2.trans sl2; clear e2 hj41_2
      replace sl3 := e3.trans sl3; clear e3 hj41_3
      replace sl8 := e8.trans sl8; clear e8 hj41_8
      replace sl9 := e9.trans sl9; clear e9 hj41_9
      clear qb8 qb9
      replace kb8 := kb8.oldB hb56 (by first | (simp; done) | (simp; omega))
      replace kb9 := kb9.oldB hb56 (by first | (simp; done) | (simp; omega))
      replace HB := hid (HB.out.more hb56 (by simp; try omega))
      clear hb56
      have qb8 := kb8.1
      have qb9 := kb9.1
      repeat ((fail_if_success refine stp ?_); with_reducible go_step)
      refine cond_E sl37 (by decide) ?_ ?_ <;> (clear sl37; intro h37 sl37)
      ·skip
       have H2 := hid (show ndec l = false ∨ dups l = true ∨ u < f by have h := h37; simp at h; rcases h with (h | h) | h; exact .inl h; exact .inr (.inl h); exact .inr (.inr h))
       have He := hid (show repErr rack l f u = 2 by unfold repErr; rw [if_neg H3.out, if_neg H7.out, if_pos H2.out])
       have Hr := hid (show repRes rack l f u = ([], 2) by unfold repRes; rw [if_pos (by rw [He.out]; decide), He.out])
       repeat ((fail_if_success refine stp ?_); with_reducible go_step)
       refine region_F ?_
       have cb8_0 := kb8.cell 0 rfl
       have zb8 := kb8.2.2
       refine pl ?_
       refine listF_absw (fun w57 hw' => ?_)
       have kb8' := cells_of hw' (Cells.set (i := 0) (kb8))
       (try simp only [vC, List.set_cons_zero, List.set_cons_succ] at kb8')
       have hb58 : OldB [B8] w55 w57 := oldset hw'
       clear hw'
       clear cb8_0 zb8
       clear qb8 qb9
       replace kb8 := kb8'
       replace kb9 := kb9.oldB hb58 (by first | (simp; done) | (simp; omega))
       replace HB := hid (HB.out.more hb58 (by simp; try omega))
       clear hb58
       have qb8 := kb8.1
       have qb9 := kb9.1
       clear kb8'
       have cb9_0 := kb9.cell 0 rfl
       have zb9 := kb9.2.2
       refine pl ?_
       refine listF_absw (fun w59 hw' => ?_)
       have kb9' := cells_of hw' (Cells.set (i := 0) (kb9))
       (try simp only [vC, List.set_cons_zero, List.set_cons_succ] at kb9')
       have hb60 : OldB [B9] w57 w59 := oldset hw'
       clear hw'
       clear cb9_0 zb9
       clear qb8 qb9
       replace kb9 := kb9'
       replace kb8 := kb8.oldB hb60 (by first | (simp; done) | (simp; omega))
       replace HB := hid (HB.out.more hb60 (by simp; try omega))
       clear hb60
       have qb8 := kb8.1
       have qb9 := kb9.1
       clear kb9'
       refine listF_abs (fun s61 hs' => ?_)
       replace sl8 := gs 8 hs' sl8; replace sl9 := gs 9 hs' sl9; clear hs' sl0 sl1 sl2 sl3 sl37
       refine listF_nil ?_
       repeat ((fail_if_success refine stp ?_); with_reducible go_step)
       exact rep_leave_ret (Ds := []) (by decide) sl8 sl9 (by simp) (by simp) kb8 kb9 (by simp) (by simp) rfl (rep_no Hr.out HB.out.toBelow)
      ·skip
       have h37' : (ndec l = true ∧ dups l = false) ∧ ¬ u < f := by simpa using h37
       have H2 := hid (show ¬ (ndec l = false ∨ dups l = true ∨ u < f) by rintro (h | h | h); exact absurd h (by rw [h37'.1.1]; decide); exact absurd h (by rw [h37'.1.2]; decide); exact h37'.2 h)
       have Hnd := hid (ndec_iff.1 h37'.1.1)
       have huf := h37'.2
       clear h37'
       repeat ((fail_if_success refine stp ?_); with_reducible go_step)
       refine region_F ?_
       refine pl ?_
       refine listF_abs (fun s62 hs' => ?_)
       replace sl0 := gs 0 hs' sl0; replace sl1 := gs 1 hs' sl1; replace sl2 := gs 2 hs' sl2; replace sl3 := gs 3 hs' sl3; replace sl8 := gs 8 hs' sl8; replace sl9 := gs 9 hs' sl9
       have sl10 := gu 10 hs'; clear hs' sl37
       refine listF_nil ?_
       repeat ((fail_if_success refine stp ?_); with_reducible go_step)
       refine region_F ?_
       refine pl ?_
       refine pl ?_
       obtain ⟨NB, hNB⟩ : ∃ n, n = w55.heap.size := ⟨_, rfl⟩
       have gNB := HB.out.gB hNB
       have hb8NB : B8 < NB := oB qb8 hNB
       have hb9NB : B9 < NB := oB qb9 hNB
       have hleNB : NB ≤ w55.heap.size := by omega
       have hgeNB : w55.heap.size ≤ NB := by omega
       clear hNB
       refine pl ?_
       refine listF_abs (fun s63 hs' => ?_)
       replace sl1 := gs 1 hs' sl1; replace sl2 := gs 2 hs' sl2; replace sl3 := gs 3 hs' sl3; replace sl8 := gs 8 hs' sl8; replace sl9 := gs 9 hs' sl9; replace sl10 := gs 10 hs' sl10
       have sl55 := gu 55 hs'; have sl56 := gu 56 hs'; have sl57 := gu 57 hs'; clear hs' sl0
       refine listF_nil ?_
       repeat ((fail_if_success refine stp ?_); with_reducible go_step)
       clear qb8 qb9
       have hc0_1 := hid sl1
       have hc0_2 := hid sl2
       have hc0_3 := hid sl3
       have hc0_8 := hid sl8
       have hc0_9 := hid sl9
       have hc0_55 := hid sl55
       have hc0_56 := hid sl56
       refine loop_F (n := 106) (fun kJ sJ wJ => ∃ (i : Nat) (v10 : Value) (Vs : List Nat), kJ = rack.length - i ∧ sJ 10 = v10 ∧ sJ 57 = .int .i64 (i : Int) ∧ sJ 1 = s63 1 ∧ sJ 2 = s63 2 ∧ sJ 3 = s63 3 ∧ sJ 8 = s63 8 ∧ sJ 9 = s63 9 ∧ sJ 55 = s63 55 ∧ sJ 56 = s63 56 ∧ OldB [] w wJ ∧ i ≤ rack.length ∧ Cells wJ B8 [.slice none 0 0] ∧ Cells wJ B9 [.int .i64 0] ∧ Own ptr1 1 98 NB wJ v10 Vs ∧ Hid (Vs.length = i) ∧ VlO f rack 0 i Vs wJ ∧ NB ≤ wJ.heap.size ∧ (Hid (∀ j, j < Vs.length → NB ≤ Vs.getD j 0 ∧ v10.ownBlock ≠ some (Vs.getD j 0))) ∧ Hid Vs.Nodup ∧ (Hid (∀ j (h : j < rack.length), j < i → askErr f rack[j] = 0))) ⟨0, .slice none 0 0, [], rfl, (by first | exact sl10 | (rw [sl10]; go_num) | (rw [sl10]; rfl)), (by first | exact sl57 | (rw [sl57]; go_num) | (rw [sl57]; rfl)), rfl, rfl, rfl, rfl, rfl, rfl, rfl, HB.out, Nat.zero_le _, kb8, kb9, Own.nil _ _ _ _ _, hid rfl, (fun j hj h1 h2 => by omega), hleNB, hid (fun j h => by simp at h), hid List.nodup_nil, hid (fun j hj h => by omega)⟩ ?_
       clear sl10 sl57 kb8 kb9 HB
       rintro kJ s64 w65 ⟨i, v10, Vs, rfl, sl10, sl57, e1, e2, e3, e8, e9, e55, e56, HB', hil, k8x, k9x, hO10, hvl, hvo, hNBw, hva, hvn, hok⟩
       replace sl1 := e1.trans sl1; clear e1
       replace sl2 := e2.trans sl2; clear e2
       replace sl3 := e3.trans sl3; clear e3
       replace sl8 := e8.trans sl8; clear e8
       replace sl9 := e9.trans sl9; clear e9
       replace sl55 := e55.trans sl55; clear e55
       replace sl56 := e56.trans sl56; clear e56
       have HB := hid HB'; clear HB'
       have kb8 := k8x
       clear k8x
       have qb8 := kb8.1
       have kb9 := k9x
       clear k9x
       have qb9 := kb9.1
       obtain ⟨NI, hNI⟩ : ∃ n, n = w65.heap.size := ⟨_, rfl⟩
       have Hvlt := hid (show ∀ j, j < Vs.length → Vs.getD j 0 < NI from fun j hj => by rw [hNI]; exact (hvo j (by rw [hvl.out] at hj; omega) (Nat.zero_le _) (by rw [hvl.out] at hj; exact hj)).1)
       have hNIl : NI ≤ w65.heap.size := by omega
       have hNBI : NB ≤ NI := by omega
       clear hNI
       repeat ((fail_if_success refine stp ?_); with_reducible go_step)
       refine region_F ?_
       refine pl ?_
       refine listF_abs (fun s66 hs' => ?_)
       replace sl1 := gs 1 hs' sl1; replace sl2 := gs 2 hs' sl2; replace sl3 := gs 3 hs' sl3; replace sl8 := gs 8 hs' sl8; replace sl9 := gs 9 hs' sl9; replace sl10 := gs 10 hs' sl10
       replace sl55 := gs 55 hs' sl55; replace sl56 := gs 56 hs' sl56; replace sl57 := gs 57 hs' sl57; have sl58 := gu 58 hs'; clear hs'
       refine listF_nil ?_
       repeat ((fail_if_success refine stp ?_); with_reducible go_step)
       refine cond_E sl58 (by decide) ?_ ?_ <;> (clear sl58; intro h58 sl58)
       ·skip
        have hlt : i < rack.length := by simpa using h58
        have hlt' : (i : Int) < rack.length := by omega
        obtain ⟨b, off, rfl, hbs, c0, c1, c2, c3, c4⟩ := RdVls.ne (Rd.oldB HR.out.rd HB.out (by simp)) hlt
        have hmem : rack[i] ∈ rack := List.getElem_mem hlt
        have Hin := hid (HR.out.inn _ hmem)
        repeat ((fail_if_success refine stp ?_); with_reducible go_step)
        refine region_F ?_
        refine pl ?_
        refine pl ?_
        refine pa (fun w67 B12 hB kb12' hb68 => ?_)
        have gb12 := HB.out.gB hB
        have ob8_b12 := oB qb8 hB
        have ob9_b12 := oB qb9 hB
        have nhO10_b12 : ∀ g, v10.ownBlock = some g → g < B12 := fun g hg => by have := (World.ownsRow.lt hO10 g hg).2; omega
        have eb12 := eB hB; clear hB
        clear qb8 qb9
        replace kb8 := kb8.at hb68
        replace kb9 := kb9.at hb68
        replace hvo := VlO.below hvo hb68
        replace hO10 := Own.at hO10 hb68
        replace HB := hid (HB.out.below hb68)
        clear hb68
        have qb8 := kb8.1
        have qb9 := kb9.1
        have kb12 := kb12'
        clear kb12'
        have qb12 := kb12.1
        have cb12_0 := kb12.cell 0 rfl
        have cb12_1 := kb12.cell 1 rfl
        have cb12_2 := kb12.cell 2 rfl
        have cb12_3 := kb12.cell 3 rfl
        have cb12_4 := kb12.cell 4 rfl
        have zb12 := kb12.2.2
        refine pl ?_
        refine listF_absw (fun w69 hw' => ?_)
        have kb12' := cells_of hw' (Cells.set (i := 4) (Cells.set (i := 3) (Cells.set (i := 2) (Cells.set (i := 1) (Cells.set (i := 0) (kb12))))))
        (try simp only [vC, List.set_cons_zero, List.set_cons_succ] at kb12')
        have hb70 : OldB [B12] w67 w69 := oldset hw'
        clear hw'
        clear cb12_0 cb12_1 cb12_2 cb12_3 cb12_4 zb12
        clear qb8 qb9 qb12
        replace kb12 := kb12'
        replace kb8 := kb8.oldB hb70 (by first | (simp; done) | (simp; omega))
        replace kb9 := kb9.oldB hb70 (by first | (simp; done) | (simp; omega))
        replace hvo := VlO.oldB hvo hb70 (fun j hj h1 h2 => by have := Hvlt.out j (by rw [hvl.out]; exact h2); have h5 := (hva.out j (by rw [hvl.out]; exact h2)).1; intro hm; rw [List.mem_singleton] at hm; omega)
        replace hO10 := Own.oldB hO10 hb70 (fun g hg => by have n0 := (World.ownsRow.lt hO10 g hg).1; have nb12 := nhO10_b12 g hg; first | (simp; done) | (simp; omega))
        replace HB := hid (HB.out.more hb70 (by simp; try omega))
        clear hb70
        have qb8 := kb8.1
        have qb9 := kb9.1
        have qb12 := kb12.1
        clear kb12'
        refine listF_abs (fun s71 hs' => ?_)
        replace sl1 := gs 1 hs' sl1; replace sl2 := gs 2 hs' sl2; replace sl3 := gs 3 hs' sl3; replace sl8 := gs 8 hs' sl8; replace sl9 := gs 9 hs' sl9; replace sl10 := gs 10 hs' sl10
        have sl12 := gu 12 hs'; replace sl55 := gs 55 hs' sl55; replace sl56 := gs 56 hs' sl56; replace sl57 := gs 57 hs' sl57; clear hs' sl58
        refine listF_nil ?_
        repeat ((fail_if_success refine stp ?_); with_reducible go_step)
        refine region_F ?_
        refine pl ?_
        have cb12_0 := kb12.cell 0 rfl
        have cb12_1 := kb12.cell 1 rfl
        have cb12_2 := kb12.cell 2 rfl
        have cb12_3 := kb12.cell 3 rfl
        have cb12_4 := kb12.cell 4 rfl
        refine pl ?_
        refine pl ?_
        refine pl ?_
        refine pl ?_
        by_cases ha : askErr f rack[i] = 0
        ·skip
         have Ha := hid ha
         clear ha
         refine listF_step rfl (fun K' hK => ?_); unfold opF; go_simp
         refine (look_ok rack[i].k rack[i].a rack[i].c rack[i].ca rack[i].cc rack[i].cs f _ Hin.out.1 Hin.out.2.1 (Rd.oldB (HR.out.st _ hmem) HB.out (by simp)) (Rd.oldB (HR.out.ck _ hmem) HB.out (by simp)) Hin.out.2.2 Ha.out).mono ?_; rintro e w72 ⟨V, rfl, gV', hV', hb73⟩
         have gV : w.heap.size ≤ V := by have := HB.out.size; omega
         have nV10 : v10.ownBlock ≠ some V := fun e => by have := (World.ownsRow.lt hO10 _ e).2; omega
         have hVI : NI ≤ V := by omega
         have hNBV : NB ≤ V := by omega
         have ob8_V : B8 < V := by have := gV'; omega
         have ob9_V : B9 < V := by have := gV'; omega
         have ob12_V : B12 < V := by have := gV'; omega
         have nhO10_V : ∀ g, v10.ownBlock = some g → g < V := fun g hg => by have := (World.ownsRow.lt hO10 g hg).2; have := gV'; omega
         refine ⟨_, rfl, hK _ _ ?_⟩; clear hK K'
         clear cb12_0 cb12_1 cb12_2 cb12_3 cb12_4
         clear qb8 qb9 qb12
         replace kb8 := kb8.at hb73
         replace kb9 := kb9.at hb73
         replace kb12 := kb12.at hb73
         replace hvo := VlO.below hvo hb73
         replace hO10 := Own.at hO10 hb73
         replace HB := hid (HB.out.below hb73)
         clear hb73
         have qb8 := kb8.1
         have qb9 := kb9.1
         have qb12 := kb12.1
         have kV := hV'
         clear hV'
         have qV := kV.1
         refine pl ?_
         refine pl ?_
         refine pl ?_
         refine pl ?_
         refine pl ?_
         refine listF_abs (fun s74 hs' => ?_)
         replace sl1 := gs 1 hs' sl1; replace sl2 := gs 2 hs' sl2; replace sl3 := gs 3 hs' sl3; replace sl8 := gs 8 hs' sl8; replace sl9 := gs 9 hs' sl9; replace sl10 := gs 10 hs' sl10
         have sl13 := gu 13 hs'; have sl14 := gu 14 hs'; replace sl55 := gs 55 hs' sl55; replace sl56 := gs 56 hs' sl56; replace sl57 := gs 57 hs' sl57; clear hs' sl12
         refine listF_nil ?_
         repeat ((fail_if_success refine stp ?_); with_reducible go_step)
         refine region_F ?_
         refine pl ?_
         refine pl ?_
         refine listF_abs (fun s75 hs' => ?_)
         replace sl1 := gs 1 hs' sl1; replace sl2 := gs 2 hs' sl2; replace sl3 := gs 3 hs' sl3; replace sl8 := gs 8 hs' sl8; replace sl9 := gs 9 hs' sl9; replace sl10 := gs 10 hs' sl10
         replace sl13 := gs 13 hs' sl13; replace sl14 := gs 14 hs' sl14; replace sl55 := gs 55 hs' sl55; replace sl56 := gs 56 hs' sl56; replace sl57 := gs 57 hs' sl57; have sl71 := gu 71 hs'
         clear hs'
         refine listF_nil ?_
         repeat ((fail_if_success refine stp ?_); with_reducible go_step)
         refine cond_f ?_
         repeat ((fail_if_success refine stp ?_); with_reducible go_step)
         refine region_F ?_
         refine pl ?_
         refine pl ?_
         refine pas (fun w76 B75 hB kb75' hb77 => ?_)
         have gb75 := HB.out.gB hB
         have ob8_b75 := oB qb8 hB
         have ob9_b75 := oB qb9 hB
         have ob12_b75 := oB qb12 hB
         have oV_b75 := oB qV hB
         have nhO10_b75 : ∀ g, v10.ownBlock = some g → g < B75 := fun g hg => by have := (World.ownsRow.lt hO10 g hg).2; omega
         have eb75 := eB hB; clear hB
         clear qb8 qb9 qb12 qV
         replace kb8 := kb8.at hb77
         replace kb9 := kb9.at hb77
         replace kb12 := kb12.at hb77
         replace kV := kV.at hb77
         replace hvo := VlO.below hvo hb77
         replace hO10 := Own.at hO10 hb77
         replace HB := hid (HB.out.below hb77)
         clear hb77
         have qb8 := kb8.1
         have qb9 := kb9.1
         have qb12 := kb12.1
         have qV := kV.1
         have kb75 := kb75'
         clear kb75'
         have qb75 := kb75.1
         have hVsz := kV.1
         have ab8 : v10.ownBlock ≠ some B8 := fun e => by have n0 := (World.ownsRow.lt hO10 _ e).1; omega
         have ab9 : v10.ownBlock ≠ some B9 := fun e => by have n0 := (World.ownsRow.lt hO10 _ e).1; omega
         have ab12 : v10.ownBlock ≠ some B12 := fun e => by have n0 := (World.ownsRow.lt hO10 _ e).1; have n9 := nhO10_b12 _ e; omega
         have aV : v10.ownBlock ≠ some V := fun e => by have n0 := (World.ownsRow.lt hO10 _ e).1; have n9 := nhO10_V _ e; omega
         have ab75 : v10.ownBlock ≠ some B75 := fun e => by have n0 := (World.ownsRow.lt hO10 _ e).1; have n9 := nhO10_b75 _ e; omega
         have hzz := HB.out.size
         refine listF_step rfl (fun K' hK => ?_)
         refine opF_app (d := 76) rfl (by decide) (.tmp 73) (.tmp 75) _ rfl 98 i0 _ 8 Try.underlying115 hi0 hz0 hy0 hx0 rfl (by decide) (fun _ => rfl) ptr_one NB v10 Vs [V] (some ⟨B75, 0, none⟩) 1 (by go_simp) (by go_simp) hO10 (Cells.rd (f := ptr1) (m := 1) (l := [V]) (fun _ => rfl) kb75) (by unfold maxLen; rw [hvl.out]; simp; omega) (by rw [hvl.out]; simp; omega) (by omega) (fun v76 w78 hO' hG hV => hK _ _ ?_)
         clear hK K' hzz
         clear qb8 qb9 qb12 qV qb75
         replace kb8 := kb8.grown hG ab8; clear ab8
         replace kb9 := kb9.grown hG ab9; clear ab9
         replace kb12 := kb12.grown hG ab12; clear ab12
         replace kV := kV.grown hG aV; clear aV
         replace kb75 := kb75.grown hG ab75; clear ab75
         replace hvo := VlO.grown hvo hG (fun j hj h1 h2 => (hva.out j (by rw [hvl.out]; exact h2)).2)
         have HVA := hid (vs_app hva.out nV10 (show NB ≤ V by omega) hV (fun j hj => by have := Hvlt.out j hj; omega) (show V < _ from hVsz))
         have HVN := hid (show (Vs ++ [V]).Nodup from nodup_snoc hvn.out (fun hm => by obtain ⟨j, hj, e⟩ := List.mem_iff_getElem.1 hm; have := Hvlt.out j hj; rw [getD_get hj, e] at this; omega))
         replace HB := hid (HB.out.grown hG (fun k hk => .inl (by have := (World.ownsRow.lt hO10 k hk).1; omega)))
         clear hO10; have hO10 := hO'; clear hO' hG hV
         clear nhO10_b12 nhO10_V nhO10_b75
         have qb8 := kb8.1
         have qb9 := kb9.1
         have qb12 := kb12.1
         have qV := kV.1
         have qb75 := kb75.1
         refine pl ?_
         refine listF_abs (fun s79 hs' => ?_)
         replace sl1 := gs 1 hs' sl1; replace sl2 := gs 2 hs' sl2; replace sl3 := gs 3 hs' sl3; replace sl8 := gs 8 hs' sl8; replace sl9 := gs 9 hs' sl9; replace sl10 := gu 10 hs'
         replace sl55 := gs 55 hs' sl55; replace sl56 := gs 56 hs' sl56; replace sl57 := gs 57 hs' sl57; clear hs' sl13 sl14 sl71
         refine listF_nil ?_
         repeat ((fail_if_success refine stp ?_); with_reducible go_step)
         refine region_F ?_
         refine pl ?_
         refine pl ?_
         refine listF_abs (fun s80 hs' => ?_)
         replace sl1 := gs 1 hs' sl1; replace sl2 := gs 2 hs' sl2; replace sl3 := gs 3 hs' sl3; replace sl8 := gs 8 hs' sl8; replace sl9 := gs 9 hs' sl9; replace sl10 := gs 10 hs' sl10
         replace sl55 := gs 55 hs' sl55; replace sl56 := gs 56 hs' sl56; replace sl57 := gu 57 hs'; clear hs'
         refine listF_nil ?_
         repeat ((fail_if_success refine stp ?_); with_reducible go_step)
         refine ⟨_, _, rfl, ?_, i + 1, v76, (Vs ++ [V]), rfl, (by first | (with_reducible exact sl10) | (rw [sl10]; (with_reducible go_num); done) | (rw [sl10, IntWalk.i64_in] <;> first | ((with_reducible go_num); done) | omega) | (rw [sl10]; go_num; done) | (rw [sl10]; simp; done) | (rw [sl10]; simp; omega)), (by first | (with_reducible exact sl57) | (rw [sl57]; (with_reducible go_num); done) | (rw [sl57, IntWalk.i64_in] <;> first | ((with_reducible go_num); done) | omega) | (rw [sl57]; go_num; done) | (rw [sl57]; simp; done) | (rw [sl57]; simp; omega)), (sl1.trans hc0_1.out.symm), (sl2.trans hc0_2.out.symm), (sl3.trans hc0_3.out.symm), (sl8.trans hc0_8.out.symm), (sl9.trans hc0_9.out.symm), (sl55.trans hc0_55.out.symm), (sl56.trans hc0_56.out.symm), HB.out, by omega, kb8, kb9, hO10, hid (by rw [List.length_append, hvl.out]; rfl), (VlO.snoc hvo hlt hvl.out kV), by have := kV.1; omega, HVA, HVN, hid (fun j hj hji => by rcases Nat.lt_or_ge j i with h | h <;> first | exact hok.out j hj h | (have e : j = i := (by omega); subst e; exact Ha.out))⟩
         omega
        ·skip
         have Ha := hid ha
         have ha1 : ((asked rack[i].k rack[i].cs f).2 != 0) = true := by simpa [askErr] using ha
         clear ha
         have He := hid (show repErr rack l f u = askErr f rack[i] by unfold repErr; rw [if_neg H3.out, if_neg H7.out, if_neg H2.out]; exact rackErr_some hlt hok.out Ha.out)
         have Hr := hid (show repRes rack l f u = ([], askErr f rack[i]) by unfold repRes; rw [if_pos (by rw [He.out]; exact Ha.out), He.out])
         refine listF_step rfl (fun K' hK => ?_); unfold opF; go_simp
         refine (look_bad rack[i].k rack[i].a rack[i].c rack[i].ca rack[i].cc rack[i].cs f _ Hin.out.1 Hin.out.2.1 (Rd.oldB (HR.out.st _ hmem) HB.out (by simp)) (Rd.oldB (HR.out.ck _ hmem) HB.out (by simp)) Hin.out.2.2 Ha.out).mono ?_; rintro e w81 ⟨rfl, hb82⟩
         refine ⟨_, rfl, hK _ _ ?_⟩; clear hK K'
         clear cb12_0 cb12_1 cb12_2 cb12_3 cb12_4
         clear qb8 qb9 qb12
         replace kb8 := kb8.at hb82
         replace kb9 := kb9.at hb82
         replace kb12 := kb12.at hb82
         replace hvo := VlO.below hvo hb82
         replace hO10 := Own.at hO10 hb82
         replace HB := hid (HB.out.below hb82)
         clear hb82
         have qb8 := kb8.1
         have qb9 := kb9.1
         have qb12 := kb12.1
         refine pl ?_
         refine pl ?_
         refine pl ?_
         refine pl ?_
         refine pl ?_
         refine listF_abs (fun s83 hs' => ?_)
         replace sl1 := gs 1 hs' sl1; replace sl2 := gs 2 hs' sl2; replace sl3 := gs 3 hs' sl3; replace sl8 := gs 8 hs' sl8; replace sl9 := gs 9 hs' sl9; replace sl10 := gs 10 hs' sl10
         have sl13 := gu 13 hs'; have sl14 := gu 14 hs'; replace sl55 := gs 55 hs' sl55; replace sl56 := gs 56 hs' sl56; replace sl57 := gs 57 hs' sl57; clear hs' sl12
         refine listF_nil ?_
         repeat ((fail_if_success refine stp ?_); with_reducible go_step)
         refine region_F ?_
         refine pl ?_
         refine pl ?_
         refine listF_abs (fun s84 hs' => ?_)
         replace sl1 := gs 1 hs' sl1; replace sl2 := gs 2 hs' sl2; replace sl3 := gs 3 hs' sl3; replace sl8 := gs 8 hs' sl8; replace sl9 := gs 9 hs' sl9; replace sl10 := gs 10 hs' sl10
         replace sl13 := gs 13 hs' sl13; replace sl14 := gs 14 hs' sl14; replace sl55 := gs 55 hs' sl55; replace sl56 := gs 56 hs' sl56; replace sl57 := gs 57 hs' sl57; have sl71 := gu 71 hs'
         clear hs'
         refine listF_nil ?_
         repeat ((fail_if_success refine stp ?_); with_reducible go_step)
         refine cond_t ?_
         repeat ((fail_if_success refine stp ?_); with_reducible go_step)
         refine region_F ?_
         refine pl ?_
         have cb8_0 := kb8.cell 0 rfl
         have zb8 := kb8.2.2
         refine pl ?_
         refine listF_absw (fun w85 hw' => ?_)
         have kb8' := cells_of hw' (Cells.set (i := 0) (kb8))
         (try simp only [vC, List.set_cons_zero, List.set_cons_succ] at kb8')
         have hb86 : OldB [B8] w81 w85 := oldset hw'
         clear hw'
         clear cb8_0 zb8
         clear qb8 qb9 qb12
         replace kb8 := kb8'
         replace kb9 := kb9.oldB hb86 (by first | (simp; done) | (simp; omega))
         replace kb12 := kb12.oldB hb86 (by first | (simp; done) | (simp; omega))
         replace hvo := VlO.oldB hvo hb86 (fun j hj h1 h2 => by have := Hvlt.out j (by rw [hvl.out]; exact h2); have h5 := (hva.out j (by rw [hvl.out]; exact h2)).1; intro hm; rw [List.mem_singleton] at hm; omega)
         replace hO10 := Own.oldB hO10 hb86 (fun g hg => by have n0 := (World.ownsRow.lt hO10 g hg).1; have nb12 := nhO10_b12 g hg; first | (simp; done) | (simp; omega))
         replace HB := hid (HB.out.more hb86 (by simp; try omega))
         clear hb86
         have qb8 := kb8.1
         have qb9 := kb9.1
         have qb12 := kb12.1
         clear kb8'
         have cb9_0 := kb9.cell 0 rfl
         have zb9 := kb9.2.2
         refine pl ?_
         refine listF_absw (fun w87 hw' => ?_)
         have kb9' := cells_of hw' (Cells.set (i := 0) (kb9))
         (try simp only [vC, List.set_cons_zero, List.set_cons_succ] at kb9')
         have hb88 : OldB [B9] w85 w87 := oldset hw'
         clear hw'
         clear cb9_0 zb9
         clear qb8 qb9 qb12
         replace kb9 := kb9'
         replace kb8 := kb8.oldB hb88 (by first | (simp; done) | (simp; omega))
         replace kb12 := kb12.oldB hb88 (by first | (simp; done) | (simp; omega))
         replace hvo := VlO.oldB hvo hb88 (fun j hj h1 h2 => by have := Hvlt.out j (by rw [hvl.out]; exact h2); have h5 := (hva.out j (by rw [hvl.out]; exact h2)).1; intro hm; rw [List.mem_singleton] at hm; omega)
         replace hO10 := Own.oldB hO10 hb88 (fun g hg => by have n0 := (World.ownsRow.lt hO10 g hg).1; have nb12 := nhO10_b12 g hg; first | (simp; done) | (simp; omega))
         replace HB := hid (HB.out.more hb88 (by simp; try omega))
         clear hb88
         have qb8 := kb8.1
         have qb9 := kb9.1
         have qb12 := kb12.1
         clear kb9'
         refine listF_abs (fun s89 hs' => ?_)
         replace sl8 := gs 8 hs' sl8; replace sl9 := gs 9 hs' sl9; clear hs' sl1 sl2 sl3 sl10 sl13 sl14 sl55 sl56 sl57 sl71
         refine listF_nil ?_
         repeat ((fail_if_success refine stp ?_); with_reducible go_step)
         exact rep_leave_ret (Ds := []) (by decide) sl8 sl9 (by simp) (by simp) kb8 kb9 (by simp) (by simp) rfl (rep_no Hr.out HB.out.toBelow)
       ·skip
        have hge : i = rack.length := by simp at h58; omega
        subst hge
        have Hvl := hid hvl.out
        have He := hid (show repErr rack l f u = 0 by unfold repErr; rw [if_neg H3.out, if_neg H7.out, if_neg H2.out]; exact rackErr_none (fun x hx => by obtain ⟨j, hj, rfl⟩ := List.mem_iff_getElem.1 hx; exact hok.out j hj hj))
        have Her := He
        have Hask := hid (show ∀ x ∈ rack, (asked x.k x.cs f).2 = 0 from fun x hx => by obtain ⟨j, hj, rfl⟩ := List.mem_iff_getElem.1 hx; exact hok.out j hj hj)
        obtain ⟨a10, c10, rfl, hr10, hn10⟩ := Own.slice (f := ptr1) (m := 1) (fun _ => rfl) hO10
        have Hn10 := hid (show ∀ b, a10 = some b → NB ≤ b.block ∧ (∀ j, j < Vs.length → b.block ≠ Vs.getD j 0) ∧ b.block < w65.heap.size from fun b hb => ⟨hn10 b hb, fun j hj e => (hva.out j hj).2 (by rw [hb]; exact congrArg some e), (World.ownsRow.lt hO10 b.block (by rw [hb]; rfl)).2⟩)
        clear hn10 hO10
        have Hva2 := hid (show ∀ j, j < rack.length → NB ≤ Vs.getD j 0 ∧ Vs.getD j 0 < w65.heap.size from fun j hj => ⟨(hva.out j (by rw [Hvl.out]; exact hj)).1, (hvo j hj (Nat.zero_le _) hj).1⟩)
        repeat ((fail_if_success refine stp ?_); with_reducible go_step)
        clear hc0_1 hc0_2 hc0_3 hc0_8 hc0_9 hc0_55 hc0_56
        refine region_F ?_
        refine pl ?_
        refine pl ?_
        obtain ⟨w90, hmk, hOm, hGm⟩ := run_make_full (P := Try.prog) w65 w65.heap.size 55 47 i2 (.slice none 0 0) 1 Try.underlying55 hi2 hz2 hy2 .i64 .i64 l.length (by rw [hx2]; omega) (by unfold maxLen; omega) (Nat.le_refl _)
        refine pl ?_
        clear hmk
        have hb91 : Below w65.heap.size w65 w90 := ⟨hGm.os, hGm.tape, hGm.output, hGm.size, fun k hk => hGm.block k hk (by simp)⟩
        obtain ⟨B80, hB⟩ : ∃ b, b = w65.heap.size := ⟨_, rfl⟩
        rw [← hB] at hOm
        (try rw [← hB])
        have g80 := HB.out.gB hB
        have o8_80 : B8 < B80 := by have := kb8.1; omega
        have o9_80 : B9 < B80 := by have := kb9.1; omega
        have Hv80 := hid (show ∀ j, j < rack.length → Vs.getD j 0 < B80 from fun j hj => by rw [hB]; exact (Hva2.out j hj).2)
        have H80p := hid (show ∀ b, a10 = some b → b.block < B80 from fun b hb => by rw [hB]; exact (Hn10.out b hb).2.2)
        have HpV := hid (show ∀ b, a10 = some b → ∀ j, j < rack.length → b.block ≠ Vs.getD j 0 from fun b hb j hj => (Hn10.out b hb).2.1 j (by rw [Hvl.out]; exact hj))
        clear hB
        have k80' : Cells w90 B80 ((List.replicate l.length Sl.zero).flatMap Sl.cs) := (Own.of (f := Sl.cs) (m := 1) (n := l.length) (by simp) (by rw [← made_sls]) hOm).toCells
        clear hOm hGm
        clear qb8 qb9
        replace kb8 := kb8.at hb91
        replace kb9 := kb9.at hb91
        replace hvo := VlO.below hvo hb91
        replace hr10 := Rd.at hr10 hb91
        replace HB := hid (HB.out.below hb91)
        clear hb91
        have qb8 := kb8.1
        have qb9 := kb9.1
        have kB80 := k80'
        clear k80'
        have qB80 := kB80.1
        have cb8_0 := kb8.cell 0 rfl
        have zb8 := kb8.2.2
        refine pl ?_
        refine listF_absw (fun w92 hw' => ?_)
        have kb8' := cells_of hw' (Cells.set (i := 0) (kb8))
        (try simp only [vC, List.set_cons_zero, List.set_cons_succ] at kb8')
        have hb93 : OldB [B8] w90 w92 := oldset hw'
        clear hw'
        clear cb8_0 zb8
        clear qb8 qb9 qB80
        replace kb8 := kb8'
        replace kb9 := kb9.oldB hb93 (by first | (simp; done) | (simp; omega))
        replace kB80 := kB80.oldB hb93 (by first | (simp; done) | (simp; omega))
        replace hvo := VlO.oldB hvo hb93 (fun j hj h1 h2 => by have := Hvlt.out j (by rw [hvl.out]; exact h2); have h5 := (hva.out j (by rw [hvl.out]; exact h2)).1; intro hm; rw [List.mem_singleton] at hm; omega)
        replace hr10 := Rd.oldB hr10 hb93 (fun b hb => by have := (Hn10.out b hb).1; simp; omega)
        replace HB := hid (HB.out.more hb93 (by simp; try omega))
        clear hb93
        have qb8 := kb8.1
        have qb9 := kb9.1
        have qB80 := kB80.1
        clear kb8'
        refine listF_abs (fun s94 hs' => ?_)
        replace sl1 := gs 1 hs' sl1; replace sl2 := gs 2 hs' sl2; replace sl3 := gs 3 hs' sl3; replace sl8 := gs 8 hs' sl8; replace sl9 := gs 9 hs' sl9; replace sl10 := gs 10 hs' sl10
        clear hs' sl55 sl56 sl57 sl58
        refine listF_nil ?_
        repeat ((fail_if_success refine stp ?_); with_reducible go_step)
        refine region_F ?_
        refine pl ?_
        refine pl ?_
        refine pl ?_
        refine listF_abs (fun s95 hs' => ?_)
        replace sl1 := gs 1 hs' sl1; replace sl2 := gs 2 hs' sl2; replace sl3 := gs 3 hs' sl3; replace sl8 := gs 8 hs' sl8; replace sl9 := gs 9 hs' sl9; have sl81 := gu 81 hs'
        have sl82 := gu 82 hs'; have sl83 := gu 83 hs'; clear hs' sl10
        refine listF_nil ?_
        repeat ((fail_if_success refine stp ?_); with_reducible go_step)
        clear qb8 qb9 qB80
        have hc1_1 := hid sl1
        have hc1_2 := hid sl2
        have hc1_3 := hid sl3
        have hc1_8 := hid sl8
        have hc1_9 := hid sl9
        have hc1_81 := hid sl81
        have hc1_82 := hid sl82
        refine loop_D (n := 106) (fun kJ sJ dJ wJ => ∃ (i : Nat) (Ds : List Nat) (xs : List Sl) (o : LLI), kJ = rack.length - i ∧ dJ = marks Ds [repD B8 B9] ∧ sJ 83 = .int .i64 (i : Int) ∧ sJ 1 = s95 1 ∧ sJ 2 = s95 2 ∧ sJ 3 = s95 3 ∧ sJ 8 = s95 8 ∧ sJ 9 = s95 9 ∧ sJ 81 = s95 81 ∧ sJ 82 = s95 82 ∧ OldB [] w wJ ∧ i ≤ rack.length ∧ Cells wJ B8 [.slice (some ⟨B80, 0, none⟩) l.length l.length] ∧ Cells wJ B9 [.int .i64 0] ∧ Cells wJ B80 (xs.flatMap Sl.cs) ∧ PlanO (B80 + 1) [] wJ xs ∧ VlO f rack i rack.length Vs wJ ∧ Rd ptr1 1 wJ a10 Vs ∧ DefO Ds wJ ∧ Hid (∀ D ∈ Ds, B80 < D) ∧ Hid Ds.Nodup ∧ Hid (xs.length = l.length) ∧ Hid (xs.map Sl.l = o) ∧ Hid (∀ q (h : q < xs.length), xs[q].l.length ≤ 20 * i) ∧ Hid (repOut rack l f u = repGo l f u (rack.drop i) i o)) ⟨0, [], (List.replicate l.length Sl.zero), (List.replicate l.length []), rfl, rfl, (by first | exact sl83 | (rw [sl83]; go_num) | (rw [sl83]; rfl)), rfl, rfl, rfl, rfl, rfl, rfl, rfl, HB.out, Nat.zero_le _, kb8, kb9, kB80, PlanO.start _ _ _, hvo, hr10, (fun D hD => by cases hD), hid (fun D hD => by cases hD), hid List.nodup_nil, hid (by simp), hid (by simp [Sl.zero]), hid (fun q h => by simp [Sl.zero]), hid rfl⟩ ?_
        clear sl83 kb8 kb9 kB80 hvo hr10 HB
        rintro kJ s96 dJ w97 ⟨i, Ds, xs, o, rfl, rfl, sl83, e1, e2, e3, e8, e9, e81, e82, HB', hil, k8x, k9x, k80x, hpo, hvo, hrp, hdo, hdb, hdn, hxl, hxo, hxb, hgo⟩
        replace sl1 := e1.trans sl1; clear e1
        replace sl2 := e2.trans sl2; clear e2
        replace sl3 := e3.trans sl3; clear e3
        replace sl8 := e8.trans sl8; clear e8
        replace sl9 := e9.trans sl9; clear e9
        replace sl81 := e81.trans sl81; clear e81
        replace sl82 := e82.trans sl82; clear e82
        have HB := hid HB'; clear HB'
        have kb8 := k8x
        clear k8x
        have qb8 := kb8.1
        have kb9 := k9x
        clear k9x
        have qb9 := kb9.1
        have kB80 := k80x
        clear k80x
        have qB80 := kB80.1
        repeat ((fail_if_success refine stp ?_); with_reducible go_step)
        refine region_F ?_
        refine pl ?_
        refine listF_abs (fun s98 hs' => ?_)
        replace sl1 := gs 1 hs' sl1; replace sl2 := gs 2 hs' sl2; replace sl3 := gs 3 hs' sl3; replace sl8 := gs 8 hs' sl8; replace sl9 := gs 9 hs' sl9; replace sl81 := gs 81 hs' sl81
        replace sl82 := gs 82 hs' sl82; replace sl83 := gs 83 hs' sl83; have sl84 := gu 84 hs'; clear hs'
        refine listF_nil ?_
        repeat ((fail_if_success refine stp ?_); with_reducible go_step)
        refine cond_E sl84 (by decide) ?_ ?_ <;> (clear sl84; intro h84 sl84)
        ·skip
         have hlt : i < rack.length := by have h := h84; rw [Hvl.out] at h; simpa using h
         have hltv : i < Vs.length := by rw [Hvl.out]; exact hlt
         have hlt' : (i : Int) < Vs.length := by omega
         obtain ⟨b10, o10, rfl, hb10, c10⟩ := Rd.ptr hrp hltv
         obtain ⟨V, hVd⟩ : ∃ V, V = Vs.getD i 0 := ⟨_, rfl⟩
         rw [← hVd] at c10
         have kV' := hvo i hlt (Nat.le_refl _) hlt
         rw [← hVd] at kV'
         have hVN : NB ≤ V := by rw [hVd]; exact (Hva2.out i hlt).1
         have hVB : V < B80 := by rw [hVd]; exact Hv80.out i hlt
         have Hvn := hid (show ∀ j (h : j < rack.length), i + 1 ≤ j → Vs.getD j 0 ≠ V from fun j hj h1 e => by have h2 := nodup_ne hvn.out (i := j) (j := i) (by rw [Hvl.out]; exact hj) hltv (by omega); exact h2 (by rw [e, hVd]))
         have Hpn := hid (show ∀ b, some (⟨b10, o10, none⟩ : Addr) = some b → b.block ≠ V from fun b hb e => HpV.out b hb i hlt (by rw [e, hVd]))
         clear hVd
         have kV := kV'
         clear kV'
         have qV := kV.1
         have hvo' : VlO f rack (i + 1) rack.length Vs w97 := fun j hj h1 h2 => hvo j hj (by omega) h2
         have Hdl := hid (show ∀ D ∈ Ds, D < w97.heap.size from fun D hD => (Array.getElem?_eq_some_iff.1 (hdo D hD)).1)
         clear hvo
         have hmem : rack[i] ∈ rack := List.getElem_mem hlt
         obtain ⟨HKi', _, hsp, hlh, hh1, hh2, hlo0, hhi0⟩ := asked_in (Hask.out _ hmem)
         have HKi := hid HKi'
         have Hsi := hid (show spanOk (vSp f rack[i]) from hsp)
         clear HKi' hsp
         have Hpb := hid (show ∀ b, some (⟨b10, o10, none⟩ : Addr) = some b → b.block < B80 from fun b hb => H80p.out b hb)
         have Hvb := Hv80
         have Hanb := hid (show ∀ b, an = some b → l ≠ [] → b.block < w.heap.size from fun b hb hl => rd_lt HRl.out hb hl)
         have Hab := hid (show ∀ b, rack[i].a = some b → b.block < w.heap.size from fun b hb => rd_lt (HR.out.st _ hmem) hb (by have := HKi.out.l0; intro e; rw [e] at this; simp at this))
         have Hob := hid (show ∀ q (h : q < xs.length) g, xs[q].v.ownBlock = some g → g < w97.heap.size from fun q hq g hg => (World.ownsRow.lt (hpo.own q hq) g hg).2)
         repeat ((fail_if_success refine stp ?_); with_reducible go_step)
         refine region_F ?_
         refine pl ?_
         refine pl ?_
         refine pl ?_
         refine pa (fun w99 B15 hB kb15' hb100 => ?_)
         have gb15 := HB.out.gB hB
         have ob8_b15 := oB qb8 hB
         have ob9_b15 := oB qb9 hB
         have oB80_b15 := oB qB80 hB
         have oV_b15 := oB qV hB
         have eb15 := eB hB; clear hB
         clear qb8 qb9 qB80 qV
         replace kb8 := kb8.at hb100
         replace kb9 := kb9.at hb100
         replace kB80 := kB80.at hb100
         replace kV := kV.at hb100
         replace hrp := Rd.at hrp hb100
         replace hdo := DefO.below hdo hb100
         replace hpo := PlanO.below hpo hb100
         replace hvo' := VlO.below hvo' hb100
         replace HB := hid (HB.out.below hb100)
         clear hb100
         have qb8 := kb8.1
         have qb9 := kb9.1
         have qB80 := kB80.1
         have qV := kV.1
         have kb15 := kb15'
         clear kb15'
         have qb15 := kb15.1
         have cb15_0 := kb15.cell 0 rfl
         have zb15 := kb15.2.2
         refine pl ?_
         refine listF_absw (fun w101 hw' => ?_)
         have kb15' := cells_of hw' (Cells.set (i := 0) (kb15))
         (try simp only [vC, List.set_cons_zero, List.set_cons_succ] at kb15')
         have hb102 : OldB [B15] w99 w101 := oldset hw'
         clear hw'
         clear cb15_0 zb15
         clear qb8 qb9 qB80 qV qb15
         replace kb15 := kb15'
         replace kb8 := kb8.oldB hb102 (by first | (simp; done) | (simp; omega))
         replace kb9 := kb9.oldB hb102 (by first | (simp; done) | (simp; omega))
         replace kB80 := kB80.oldB hb102 (by first | (simp; done) | (simp; omega))
         replace kV := kV.oldB hb102 (by first | (simp; done) | (simp; omega))
         replace hrp := Rd.oldB hrp hb102 (fun b hb => by have := H80p.out b hb; simp; omega)
         replace hdo := DefO.oldB hdo hb102 (fun D hD => by first | (have := Hdl.out D hD; simp; omega) | (have := hdb.out D hD; simp; omega))
         replace hpo := PlanO.kept hpo (fun q hq g hg => hb102.block g (World.ownsRow.lt (hpo.own q hq) g hg).2 (fun hm => by first | (have := Hob.out q hq g hg; simp at hm; omega) | (have := (World.ownsRow.lt (hpo.own q hq) g hg).1; simp at hm; omega)))
         replace hvo' := VlO.oldB hvo' hb102 (fun j hj h1 h2 => by have := Hv80.out j hj; intro hm; rw [List.mem_singleton] at hm; omega)
         replace HB := hid (HB.out.more hb102 (by simp; try omega))
         clear hb102
         have qb8 := kb8.1
         have qb9 := kb9.1
         have qB80 := kB80.1
         have qV := kV.1
         have qb15 := kb15.1
         clear kb15'
         refine pl ?_
         refine listF_abs (fun s103 hs' => ?_)
         replace sl1 := gs 1 hs' sl1; replace sl2 := gs 2 hs' sl2; replace sl3 := gs 3 hs' sl3; replace sl8 := gs 8 hs' sl8; replace sl9 := gs 9 hs' sl9; have sl15 := gu 15 hs'
         have sl16 := gu 16 hs'; replace sl81 := gs 81 hs' sl81; replace sl82 := gs 82 hs' sl82; replace sl83 := gs 83 hs' sl83; clear hs' sl84
         refine listF_nil ?_
         repeat ((fail_if_success refine stp ?_); with_reducible go_step)
         refine region_F ?_
         refine pl ?_
         refine pl ?_
         refine pl ?_
         refine pl ?_
         refine listF_step rfl (fun K' hK => ?_); unfold opF; go_simp
         refine (changes_any V an cn l.length f u _).mono ?_; rintro e w104 ⟨B4, B7, B5, B6, rfl, k4', k7', k5', k6', ⟨g4, g7, g5, g6⟩, hb105⟩
         have ob8_C4 : B8 < B4 := by have := g4; omega
         have ob9_C4 : B9 < B4 := by have := g4; omega
         have oB80_C4 : B80 < B4 := by have := g4; omega
         have oV_C4 : V < B4 := by have := g4; omega
         have ob15_C4 : B15 < B4 := by have := g4; omega
         have ob8_C7 : B8 < B7 := by have := g7; omega
         have ob9_C7 : B9 < B7 := by have := g7; omega
         have oB80_C7 : B80 < B7 := by have := g7; omega
         have oV_C7 : V < B7 := by have := g7; omega
         have ob15_C7 : B15 < B7 := by have := g7; omega
         have ob8_C5 : B8 < B5 := by have := g5; omega
         have ob9_C5 : B9 < B5 := by have := g5; omega
         have oB80_C5 : B80 < B5 := by have := g5; omega
         have oV_C5 : V < B5 := by have := g5; omega
         have ob15_C5 : B15 < B5 := by have := g5; omega
         have ob8_C6 : B8 < B6 := by have := g6; omega
         have ob9_C6 : B9 < B6 := by have := g6; omega
         have oB80_C6 : B80 < B6 := by have := g6; omega
         have oV_C6 : V < B6 := by have := g6; omega
         have ob15_C6 : B15 < B6 := by have := g6; omega
         refine ⟨_, rfl, hK _ _ ?_⟩; clear hK K'
         clear qb8 qb9 qB80 qV qb15
         replace kb8 := kb8.at hb105
         replace kb9 := kb9.at hb105
         replace kB80 := kB80.at hb105
         replace kV := kV.at hb105
         replace kb15 := kb15.at hb105
         replace hrp := Rd.at hrp hb105
         replace hdo := DefO.below hdo hb105
         replace hpo := PlanO.below hpo hb105
         replace hvo' := VlO.below hvo' hb105
         replace HB := hid (HB.out.below hb105)
         clear hb105
         have qb8 := kb8.1
         have qb9 := kb9.1
         have qB80 := kB80.1
         have qV := kV.1
         have qb15 := kb15.1
         have kC4 := k4'
         clear k4'
         have qC4 := kC4.1
         have kC7 := k7'
         clear k7'
         have qC7 := kC7.1
         have kC5 := k5'
         clear k5'
         have qC5 := kC5.1
         have kC6 := k6'
         clear k6'
         have qC6 := kC6.1
         refine listF_abs (fun s106 hs' => ?_)
         replace sl1 := gs 1 hs' sl1; replace sl2 := gs 2 hs' sl2; replace sl3 := gs 3 hs' sl3; replace sl8 := gs 8 hs' sl8; replace sl9 := gs 9 hs' sl9; replace sl15 := gs 15 hs' sl15
         replace sl81 := gs 81 hs' sl81; replace sl82 := gs 82 hs' sl82; replace sl83 := gs 83 hs' sl83; have sl92 := gu 92 hs'; clear hs' sl16
         refine listF_nil ?_
         repeat ((fail_if_success refine stp ?_); with_reducible go_step)
         obtain ⟨D, hDD⟩ : ∃ d, w104.heap.size = d := ⟨_, rfl⟩
         have db8 : B8 < D := by have := kb8.1; omega
         have db9 : B9 < D := by have := kb9.1; omega
         have dB80 : B80 < D := by have := kB80.1; omega
         have dV : V < D := by have := kV.1; omega
         have db15 : B15 < D := by have := kb15.1; omega
         have dC4 : B4 < D := by have := kC4.1; omega
         have dC7 : B7 < D := by have := kC7.1; omega
         have dC5 : B5 < D := by have := kC5.1; omega
         have dC6 : B6 < D := by have := kC6.1; omega
         have dwD : w.heap.size ≤ D := by have := HB.out.size; omega
         have hVD2 : ∀ E ∈ Ds, E < D := fun E hE => by have := (Array.getElem?_eq_some_iff.1 (hdo E hE)).1; omega
         have hkVi := kV
         have hit0 : ItD rack[i].k rack[i].a rack[i].c V B4 B7 B5 B6 an cn l f u (spOf rack[i].k (vSp f rack[i]) []) (hrOf l f []) w104 := ⟨kV, kC4, kC7, kC5, kC6, Rd.at HRl.out HB.out.toBelow, Rd.at (HR.out.st _ hmem) HB.out.toBelow⟩
         have hpo' : PlanO (B80 + 1) [B15, B4, B7, B5, B6] w104 xs := ⟨hpo.own, fun q hq g hg => by have h9 := (World.ownsRow.lt (hpo.own q hq) g hg).2; have h8 := Hob.out q hq g hg; simp; omega, hpo.ap⟩
         have hrep0 : RepI w B8 B9 B15 B80 i l.length [B15, B4, B7, B5, B6] f rack Vs (some ⟨b10, o10, none⟩) Ds o [] w104 := ⟨xs, HB.out.toBelow, kb8, kb9, kb15, kB80, hpo', hvo', hrp, hdo, hxl.out, by rw [hxo.out]; rfl, fun q hq => by have := hxb.out q hq; simp; omega⟩
         have Hit0 := hid hit0
         have Hrep0 := hid hrep0
         clear hit0 hrep0 hpo'
         clear kb8 kb9 kB80 kV kb15 kC4 kC7 kC5 kC6 qb8 qb9 qB80 qV qb15 qC4 qC7 qC5 qC6 hrp hdo hpo hvo' HB hkVi
         refine wp_range_p (α := Int) (enc := fun x : Int => .int .i64 x) (gf := 80) (lb := #[.pointer (some ⟨B4, 0, none⟩), .pointer (some ⟨B7, 0, none⟩), .pointer (some ⟨B5, 0, none⟩), .pointer (some ⟨B6, 0, none⟩)]) ?hg ?eg rfl (fun pre W => ItD rack[i].k rack[i].a rack[i].c V B4 B7 B5 B6 an cn l f u (spOf rack[i].k (vSp f rack[i]) pre) (hrOf l f pre) W ∧ RepI w B8 B9 B15 B80 i l.length [B15, B4, B7, B5, B6] f rack Vs (some ⟨b10, o10, none⟩) Ds o pre W) (fun pre x W => ∃ j : Nat, x = (j : Int) ∧ j < l.length ∧ pre.length ≤ j ∧ ItD rack[i].k rack[i].a rack[i].c V B4 B7 B5 B6 an cn l f u (spOf rack[i].k (vSp f rack[i]) (pre ++ [(j : Int)])) (hrOf l f (pre ++ [(j : Int)])) W ∧ RepI w B8 B9 B15 B80 i l.length [B15, B4, B7, B5, B6] f rack Vs (some ⟨b10, o10, none⟩) Ds o pre W) (fun p => planR rack[i].k l (vCan f rack[i]) f u = some p) (fun ch W => ch = errPanic false ∧ planR rack[i].k l (vCan f rack[i]) f u = none ∧ ∃ p, RepI w B8 B9 B15 B80 i l.length [B15, B4, B7, B5, B6] f rack Vs (some ⟨b10, o10, none⟩) Ds o p W) ?hJ ?h0 ?hiter ?hround ?hdone ?hdie
         case hg => rw [mkA_eval]; go_simp
         case eg => intro args w; rfl
         case hJ =>
          rintro pre Wx r r' ⟨h1, h2⟩ hLx
          rw [hDD] at hLx ⊢
          exact ⟨ItD.put h1 (by omega) (by omega) (by omega) (by omega) (by omega) (fun b hb hl => by have := Hanb.out b hb hl; omega) (fun b hb => by have := Hab.out b hb; omega), RepI.put h2 hLx.1 rfl (by omega) (by omega) (by omega) (by omega) (by omega) (fun j hj => by have := Hvb.out j hj; omega) (fun b hb => by have := Hpb.out b hb; omega) (fun E hE => by have := hVD2 E hE; omega)⟩
         case h0 =>
          intro r
          have hb : Below w104.heap.size w104 ((w104.alloc (.deferred (some []))).alloc (.loop r)) := ((Below.refl _ _).alloc (Nat.le_refl _) _).alloc (by simp) _
          exact ⟨Hit0.out.below hb, Hrep0.out.below hb⟩
         case hiter =>
          rintro r Wx ⟨hit, hrep⟩ hLx hy
          rw [hDD] at hLx hy ⊢
          refine (changes1_any rack[i].k rack[i].a rack[i].c V B4 B7 B5 B6 D an cn l f u (vSp f rack[i]) HKi.out Hsi.out.in ⟨hf1, hf2⟩ Hnd.out Hnb.out hl20 (by omega) (by omega) (by omega) (by omega) (by omega) (fun hl b hb => by have := Hanb.out b hb hl; omega) (fun b hb => by have := Hab.out b hb; omega) (fun pre W => RepI w B8 B9 B15 B80 i l.length [B15, B4, B7, B5, B6] f rack Vs (some ⟨b10, o10, none⟩) Ds o pre W) (fun pre W W' h ho => RepI.oldV h ho (by omega) (by omega) (by omega) (by omega) (by omega) Hvn.out Hpn.out (fun h9 => by have := hdb.out _ h9; omega)) r Wx hit hrep hLx (fun pre j W1 hj hpj h1 h2 h3 => hy pre _ W1 ⟨j, rfl, hj, hpj, h1, h2⟩ h3)).mono ?_
          rintro e W' (⟨hv, p, ⟨h1, h2⟩, h3, h4⟩ | ⟨ch, rfl, ⟨rfl, h2, p, h3⟩, h4⟩)
          · exact .inl ⟨hv, p, ⟨h1, h2⟩, h3, h4⟩
          · exact .inr ⟨_, rfl, ⟨rfl, h2, p, h3⟩, h4⟩
         case hround =>
          rintro pre x Wx r ⟨j, rfl, hj, hpj, hit, hrep⟩ hLx
          rw [hDD] at hLx ⊢
          simp only [zip1, foldl1, mkA_tmps, mkA_fold]
          refine region_FI (ρ := some (D + 1)) ?_ ?_
          · rfl
          refine pl ?_
          refine listF_nil ?_
          refine ⟨hLx, fun r' => ?_⟩
          replace hit := ItD.put (X := D + 1) (ob' := .loop r') hit (by omega) (by omega) (by omega) (by omega) (by omega) (fun b hb hl => by have := Hanb.out b hb hl; omega) (fun b hb => by have := Hab.out b hb; omega)
          replace hrep := RepI.put (ob' := .loop r') hrep hLx.1 rfl (by omega) (by omega) (by omega) (by omega) (by omega) (fun j hj => by have := Hvb.out j hj; omega) (fun b hb => by have := Hpb.out b hb; omega) (fun E hE => by have := hVD2 E hE; omega)
          replace hLx := hLx.put (r' := r')
          generalize Wx.putObj (D + 1) (.loop r') = wb at *
          refine wpIn_abs (fun s2 hs' => ?_)
          have t8 := gs 8 hs' sl8; have t15 := gs 15 hs' sl15; have t17 := gu 17 hs'; clear hs'
          clear sl1 sl2 sl3 sl8 sl9 sl15 sl81 sl82 sl83 sl92
          have sl8 := t8; have sl15 := t15; have sl17 := t17; clear t8 t15 t17
          refine wpIn_block ?_
          obtain ⟨xs, h1, h2, h3, h4, h5, h6, h7, h8, h9, h10, h11, h12⟩ := hrep
          have hjx : j < xs.length := by rw [h10]; exact hj
          have hjl : (j : Int) < l.length := by omega
          have hn15 : xs[j].v.ownBlock ≠ some B15 := fun e => h6.av j hjx _ e (by simp)
          have hxj := h12 j hjx
          skip
          obtain ⟨NW, hNWd⟩ : ∃ n, n = wb.heap.size := ⟨_, rfl⟩
          have hkeep : RepK rack[i].k rack[i].a rack[i].c V B4 B7 B5 B6 an cn l f u (spOf rack[i].k (vSp f rack[i]) (pre ++ [(j : Int)])) (hrOf l f (pre ++ [(j : Int)])) D r' B9 B80 j i xs rack Vs (some ⟨b10, o10, none⟩) Ds NW wb := ⟨hit, hLx, h3, fun q hq hn => h6.own q hq, h7, h8, h9, by omega⟩
          have hav9 : ∀ b ∈ [B15, B4, B7, B5, B6], b < NW := by have a1 := h4.1; have a2 := hit.b4.1; have a3 := hit.b7.1; have a4 := hit.b5.1; have a5 := hit.b6.1; intro b hb; simp at hb; omega
          have h80N : B80 + 1 ≤ wb.heap.size := h5.1
          have hNWs : NW ≤ wb.heap.size := by omega
          have hNg : ∀ g, xs[j].v.ownBlock = some g → RepN V B4 B7 B5 B6 an rack[i].a l D B9 i rack Vs (some ⟨b10, o10, none⟩) Ds g := fun g hg => by
            have g1 := (World.ownsRow.lt (h6.own j hjx) g hg).1
            have g2 := h6.av j hjx g hg
            simp only [List.mem_cons, List.not_mem_nil, or_false, not_or] at g2
            have g3 := own_obj (h6.own j hjx) hLx.2 rfl
            have g4 := own_obj (h6.own j hjx) hLx.1 rfl
            exact ⟨by omega, g2.2.1, g2.2.2.1, g2.2.2.2.1, g2.2.2.2.2, fun b hb hl => by have := Hanb.out b hb hl; omega, fun b hb => by have := Hab.out b hb; omega, fun e => g3 (by rw [← e]; exact hg), fun e => g4 (by rw [← e]; exact hg), by omega, fun q hq h1 => by have := Hvb.out q hq; omega, fun b hb => by have := Hpb.out b hb; omega, fun E hE e => own_obj (h6.own j hjx) (h9 E hE) rfl (by rw [e]; exact hg)⟩
          have hN80 : RepN V B4 B7 B5 B6 an rack[i].a l D B9 i rack Vs (some ⟨b10, o10, none⟩) Ds B80 := ⟨by omega, by omega, by omega, by omega, by omega, fun b hb hl => by have := Hanb.out b hb hl; omega, fun b hb => by have := Hab.out b hb; omega, by omega, by omega, by omega, fun q hq h1 => by have := Hvb.out q hq; omega, fun b hb => by have := Hpb.out b hb; omega, fun E hE => by have := hdb.out E hE; omega⟩
          have keep_app : ∀ {Wa Wb : World}, RepK rack[i].k rack[i].a rack[i].c V B4 B7 B5 B6 an cn l f u (spOf rack[i].k (vSp f rack[i]) (pre ++ [(j : Int)])) (hrOf l f (pre ++ [(j : Int)])) D r' B9 B80 j i xs rack Vs (some ⟨b10, o10, none⟩) Ds NW Wa → Wa.grownBy Wb xs[j].v.ownBlock → RepK rack[i].k rack[i].a rack[i].c V B4 B7 B5 B6 an cn l f u (spOf rack[i].k (vSp f rack[i]) (pre ++ [(j : Int)])) (hrOf l f (pre ++ [(j : Int)])) D r' B9 B80 j i xs rack Vs (some ⟨b10, o10, none⟩) Ds NW Wb := fun hk hg => by
            cases hrow : xs[j].v.ownBlock with
            | none => rw [hrow] at hg; exact RepK.old hk (oldB_grown (Bs := []) hg (fun g e => by cases e)) (fun q hq hn => (hk.ox q hq hn).kept (fun g hgq => hg.block g (World.ownsRow.lt (hk.ox q hq hn) g hgq).2 (by simp))) (by simp)
            | some g0 => rw [hrow] at hg; exact RepK.old hk (oldB_grown (Bs := [g0]) hg (fun g e => by cases e; simp)) (fun q hq hn => (hk.ox q hq hn).kept (fun g hgq => hg.block g (World.ownsRow.lt (hk.ox q hq hn) g hgq).2 (fun e => by cases e; exact h6.ap q j hq hjx hn _ hgq hrow))) (by simpa using hNg g0 hrow)
          have keep_st : ∀ {Wa : World}, RepK rack[i].k rack[i].a rack[i].c V B4 B7 B5 B6 an cn l f u (spOf rack[i].k (vSp f rack[i]) (pre ++ [(j : Int)])) (hrOf l f (pre ++ [(j : Int)])) D r' B9 B80 j i xs rack Vs (some ⟨b10, o10, none⟩) Ds NW Wa → ∀ (q : Nat) (y : Value), RepK rack[i].k rack[i].a rack[i].c V B4 B7 B5 B6 an cn l f u (spOf rack[i].k (vSp f rack[i]) (pre ++ [(j : Int)])) (hrOf l f (pre ++ [(j : Int)])) D r' B9 B80 j i xs rack Vs (some ⟨b10, o10, none⟩) Ds NW (Wa.setCell ⟨B80, q, none⟩ y) := fun hk q y => RepK.old hk (OldB.set (Bs := [B80]) (OldB.refl _ _) (by simp)) (hk.ox.setLow (by omega) _) (by simpa using hN80)
          skip
          clear hit hLx h3 h7 h8 h9
          refine regionI_FI (ρ := some (D + 1)) (fun (LJ : Nat → Bool) (sJ : Nat → Value) (wJ : World) => Cells wJ B8 [.slice (some ⟨B80, 0, none⟩) l.length l.length] ∧ Cells wJ B15 [.int .i64 (i : Int)] ∧ (LJ 10 = false → Cells wJ B80 (xs.flatMap Sl.cs)) ∧ (LJ 10 = true → Cells wJ B80 (((xs.flatMap Sl.cs)).set j (sJ 102))) ∧ (LJ 10 = true → LJ 8 = true) ∧ Below w.heap.size w wJ ∧ (B80 + 1) ≤ wJ.heap.size ∧ RepK rack[i].k rack[i].a rack[i].c V B4 B7 B5 B6 an cn l f u (spOf rack[i].k (vSp f rack[i]) (pre ++ [(j : Int)])) (hrOf l f (pre ++ [(j : Int)])) D r' B9 B80 j i xs rack Vs (some ⟨b10, o10, none⟩) Ds NW wJ ∧ (LJ 8 = true → ∀ g, (sJ 102).ownBlock = some g → xs[j].v.ownBlock = some g ∨ NW ≤ g) ∧ (LJ 10 = true → LJ 5 = true) ∧ sJ 8 = .pointer (some ⟨B8, 0, none⟩) ∧ sJ 15 = .pointer (some ⟨B15, 0, none⟩) ∧ sJ 17 = .int .i64 (j : Int) ∧ (LJ 0 = true → sJ 94 = .slice (some ⟨B80, 0, none⟩) l.length l.length) ∧ (LJ 1 = true → sJ 95 = .int .i64 (j : Int)) ∧ (LJ 2 = true → sJ 96 = .slice (some ⟨B80, 0, none⟩) l.length l.length) ∧ (LJ 3 = true → sJ 97 = .int .i64 (j : Int)) ∧ (LJ 4 = true → sJ 98 = .pointer (some ⟨B80, j, none⟩)) ∧ (LJ 5 = true → sJ 99 = xs[j].v) ∧ (LJ 6 = true → sJ 100 = .int .i64 (i : Int)) ∧ (LJ 9 = true → sJ 103 = .pointer (some ⟨B80, j, none⟩)) ∧ (LJ 8 = false → Own int1 1 3 (B80 + 1) wJ xs[j].v xs[j].l) ∧ (LJ 7 = true → Own int1 1 3 (B80 + 1) wJ (sJ 101) [(i : Int)]) ∧ (LJ 8 = true → Own int1 1 3 (B80 + 1) wJ (sJ 102) (xs[j].l ++ [(i : Int)])) ∧ (LJ 8 = false → LJ 7 = true → Apart xs[j].v (sJ 101)) ∧ (LJ 7 = true → LJ 8 = true → Apart (sJ 101) (sJ 102))) (fun ⟨_, _, hz⟩ => by cases hz.1) (by kernel_rfl) (by kernel_rfl) (by kernel_rfl) (by kernel_rfl) ?_ ?_ ⟨?_, ?_, ?_, ?_, ?_, ?_, ?_, ?_, ?_, ?_, ?_, trivial⟩
          · refine ⟨(by repeat (first | (with_reducible exact h2) | (with_reducible refine Cells.drew ?_) | (with_reducible refine Cells.up ?_ _) | (with_reducible refine Cells.setFar ?_ (by omega)))), (by repeat (first | (with_reducible exact h4) | (with_reducible refine Cells.drew ?_) | (with_reducible refine Cells.up ?_ _) | (with_reducible refine Cells.setFar ?_ (by omega)))), fun _ => (by repeat (first | (with_reducible exact h5) | (with_reducible refine Cells.drew ?_) | (with_reducible refine Cells.up ?_ _) | (with_reducible refine Cells.setFar ?_ (by omega)))), (by simp), (by simp), (by repeat (first | (with_reducible exact h1) | (with_reducible refine bdrewN ?_ _) | (with_reducible refine Below.drew ?_) | (with_reducible refine Below.setCell ?_ (by first | omega | (simp; done) | (simp; omega)) _) | (with_reducible refine Below.alloc ?_ (by first | omega | (simp; done) | (simp; omega)) _))), (by first | omega | (simp; done) | (simp; omega)), (hkeep.drew), ((fun h => by simp at h)), (by simp), ?_, ?_, ?_, (by simp), (by simp), (by simp), (by simp), (by simp), (by simp), (by simp), (by simp), (fun _ => (h6.own j hjx)), (by simp), (by simp), (by simp), (by simp)⟩
            · go_simp
            · go_simp
            · go_simp
          · rintro sJ wJ ⟨kB0, kB1, kB2, kC2, kO2, kLow, kSz, kKeep, kV9, kZ10_5, hs8, hs15, hs17, hv0, hv1, hv2, hv3, hv4, hv5, hv6, hv9, kP0, kW7, kW8, kEP0_W7, kEW7_W8⟩
            replace kB2 := kC2 (by simp)
            clear kC2
            clear kO2
            clear kZ10_5
            replace hv0 := hv0 (by simp)
            replace hv1 := hv1 (by simp)
            replace hv2 := hv2 (by simp)
            replace hv3 := hv3 (by simp)
            replace hv4 := hv4 (by simp)
            replace hv5 := hv5 (by simp)
            replace hv6 := hv6 (by simp)
            replace hv9 := hv9 (by simp)
            clear kP0
            replace kW7 := kW7 (by simp)
            replace kW8 := kW8 (by simp)
            clear kEP0_W7
            replace kEW7_W8 := kEW7_W8 (by simp) (by simp)
            obtain ⟨x', hx1, hx2⟩ := Own.toSl kW8
            have hv9 := kV9 (by simp)
            rw [hx1] at kB2 kW8 hv9
            rw [sls_set] at kB2
            have hpl := PlanO.step h6 hjx kKeep.ox (by rw [hx2]; exact kW8) (by rw [← hNWd]; exact hv9) (by rw [← hNWd]; exact hav9)
            exact ⟨rfl, ⟨kKeep.it, xs.set j x', kLow, kB0, kKeep.k9, kB1, kB2, hpl, kKeep.vo, kKeep.rp, kKeep.df, by rw [List.length_set]; exact h10, by rw [List.map_set, hx2, addPlan_snoc, h11, Int.toNat_natCast]; congr 2; rw [← h11, getD_get (by simpa using hjx)]; simp, fun q hq => by
             rw [List.length_set] at hq
             by_cases e : j = q
             · subst e; simp only [List.getElem_set_self, hx2, List.length_append, List.length_cons, List.length_nil]; have := h12 j hq; omega
             · simp only [List.getElem_set_ne e, List.length_append, List.length_cons, List.length_nil]; have := h12 q hq; omega⟩, kKeep.lp⟩
          · rintro LJ sJ wJ hL hd ⟨kB0, kB1, kB2, kC2, kO2, kLow, kSz, kKeep, kV9, kZ10_5, hs8, hs15, hs17, hv0, hv1, hv2, hv3, hv4, hv5, hv6, hv9, kP0, kW7, kW8, kEP0_W7, kEW7_W8⟩ K hK
            clear hd
            rw [if_pos (by rfl)]
            unfold opF
            have cc0_0 := kB0.cell 0 rfl
            have ccs0 := kB0.1
            go_simp
            refine hK _ _ ⟨?_, ?_, ?_, ?_, ?_, ?_, ?_, ?_, ?_, ?_, ?_, ?_, ?_, ?_, ?_, ?_, ?_, ?_, ?_, ?_, ?_, ?_, ?_, ?_, ?_, ?_⟩ <;> first | assumption | (simp [upd, updS]; done) | (simp [upd, updS]; assumption)
          · rintro LJ sJ wJ hL hd ⟨kB0, kB1, kB2, kC2, kO2, kLow, kSz, kKeep, kV9, kZ10_5, hs8, hs15, hs17, hv0, hv1, hv2, hv3, hv4, hv5, hv6, hv9, kP0, kW7, kW8, kEP0_W7, kEW7_W8⟩ K hK
            clear hd
            rw [if_pos (by rfl)]
            unfold opF
            go_simp
            refine hK _ _ ⟨?_, ?_, ?_, ?_, ?_, ?_, ?_, ?_, ?_, ?_, ?_, ?_, ?_, ?_, ?_, ?_, ?_, ?_, ?_, ?_, ?_, ?_, ?_, ?_, ?_, ?_⟩ <;> first | assumption | (simp [upd, updS]; done) | (simp [upd, updS]; assumption)
          · rintro LJ sJ wJ hL hd ⟨kB0, kB1, kB2, kC2, kO2, kLow, kSz, kKeep, kV9, kZ10_5, hs8, hs15, hs17, hv0, hv1, hv2, hv3, hv4, hv5, hv6, hv9, kP0, kW7, kW8, kEP0_W7, kEW7_W8⟩ K hK
            clear hd
            rw [if_pos (by rfl)]
            unfold opF
            have cc0_0 := kB0.cell 0 rfl
            have ccs0 := kB0.1
            go_simp
            refine hK _ _ ⟨?_, ?_, ?_, ?_, ?_, ?_, ?_, ?_, ?_, ?_, ?_, ?_, ?_, ?_, ?_, ?_, ?_, ?_, ?_, ?_, ?_, ?_, ?_, ?_, ?_, ?_⟩ <;> first | assumption | (simp [upd, updS]; done) | (simp [upd, updS]; assumption)
          · rintro LJ sJ wJ hL hd ⟨kB0, kB1, kB2, kC2, kO2, kLow, kSz, kKeep, kV9, kZ10_5, hs8, hs15, hs17, hv0, hv1, hv2, hv3, hv4, hv5, hv6, hv9, kP0, kW7, kW8, kEP0_W7, kEW7_W8⟩ K hK
            clear hd
            rw [if_pos (by rfl)]
            unfold opF
            go_simp
            refine hK _ _ ⟨?_, ?_, ?_, ?_, ?_, ?_, ?_, ?_, ?_, ?_, ?_, ?_, ?_, ?_, ?_, ?_, ?_, ?_, ?_, ?_, ?_, ?_, ?_, ?_, ?_, ?_⟩ <;> first | assumption | (simp [upd, updS]; done) | (simp [upd, updS]; assumption)
          · rintro LJ sJ wJ hL hd ⟨kB0, kB1, kB2, kC2, kO2, kLow, kSz, kKeep, kV9, kZ10_5, hs8, hs15, hs17, hv0, hv1, hv2, hv3, hv4, hv5, hv6, hv9, kP0, kW7, kW8, kEP0_W7, kEW7_W8⟩ K hK
            have ga2 := hd ⟨2, .data⟩ (by simp) rfl
            have gv2 := hv2 ga2
            have ga3 := hd ⟨3, .data⟩ (by simp) rfl
            have gv3 := hv3 ga3
            clear hd
            rw [if_pos (by rfl)]
            unfold opF
            go_simp
            refine hK _ _ ⟨?_, ?_, ?_, ?_, ?_, ?_, ?_, ?_, ?_, ?_, ?_, ?_, ?_, ?_, ?_, ?_, ?_, ?_, ?_, ?_, ?_, ?_, ?_, ?_, ?_, ?_⟩ <;> first | assumption | (simp [upd, updS]; done) | (simp [upd, updS]; assumption)
          · rintro LJ sJ wJ hL hd ⟨kB0, kB1, kB2, kC2, kO2, kLow, kSz, kKeep, kV9, kZ10_5, hs8, hs15, hs17, hv0, hv1, hv2, hv3, hv4, hv5, hv6, hv9, kP0, kW7, kW8, kEP0_W7, kEW7_W8⟩ K hK
            have ga4 := hd ⟨4, .data⟩ (by simp) rfl
            have gv4 := hv4 ga4
            clear hd
            rw [if_pos (by rfl)]
            unfold opF
            have kN2 := kB2 (by cases hh : LJ 10 with | false => rfl | true => exact absurd (kZ10_5 hh) (by rw [hL]; decide))
            have ccs2 := kN2.1
            have cj := sls_cell kN2 hjx
            go_simp
            refine hK _ _ ⟨?_, ?_, ?_, ?_, ?_, ?_, ?_, ?_, ?_, ?_, ?_, ?_, ?_, ?_, ?_, ?_, ?_, ?_, ?_, ?_, ?_, ?_, ?_, ?_, ?_, ?_⟩ <;> first | assumption | (simp [upd, updS]; done) | (simp [upd, updS]; assumption)
          · rintro LJ sJ wJ hL hd ⟨kB0, kB1, kB2, kC2, kO2, kLow, kSz, kKeep, kV9, kZ10_5, hs8, hs15, hs17, hv0, hv1, hv2, hv3, hv4, hv5, hv6, hv9, kP0, kW7, kW8, kEP0_W7, kEW7_W8⟩ K hK
            clear hd
            rw [if_pos (by rfl)]
            unfold opF
            have cc1_0 := kB1.cell 0 rfl
            have ccs1 := kB1.1
            go_simp
            refine hK _ _ ⟨?_, ?_, ?_, ?_, ?_, ?_, ?_, ?_, ?_, ?_, ?_, ?_, ?_, ?_, ?_, ?_, ?_, ?_, ?_, ?_, ?_, ?_, ?_, ?_, ?_, ?_⟩ <;> first | assumption | (simp [upd, updS]; done) | (simp [upd, updS]; assumption)
          · rintro LJ sJ wJ hL hd ⟨kB0, kB1, kB2, kC2, kO2, kLow, kSz, kKeep, kV9, kZ10_5, hs8, hs15, hs17, hv0, hv1, hv2, hv3, hv4, hv5, hv6, hv9, kP0, kW7, kW8, kEP0_W7, kEW7_W8⟩ K hK
            have ga6 := hd ⟨6, .data⟩ (by simp) rfl
            have gv6 := hv6 ga6
            clear hd
            rw [if_pos (by rfl)]
            unfold opF
            go_simp
            exact hK _ _ ⟨(Cells.up (kB0) _), (Cells.up (kB1) _), (fun h => by have h := (by simpa [upd] using h : LJ 10 = false); exact Cells.up (kB2 h) _), (fun h => by have h := (by simpa [upd] using h : LJ 10 = true); refine Cells.up ?_ _; simpa [updS] using kC2 h), (by simpa [upd] using kO2), (kLow.alloc (by omega) _), (by first | omega | (simp; done) | (simp; omega) | (have := hG.size; omega)), ((RepK.alloc kKeep _)), ((fun h => by simpa [upd, updS] using kV9 (by simpa [upd] using h))), (by simpa [upd] using kZ10_5), (by simpa [upd, updS] using hs8), (by simpa [upd, updS] using hs15), (by simpa [upd, updS] using hs17), (by simpa [upd, updS] using hv0), (by simpa [upd, updS] using hv1), (by simpa [upd, updS] using hv2), (by simpa [upd, updS] using hv3), (by simpa [upd, updS] using hv4), (by simpa [upd, updS] using hv5), (by simpa [upd, updS] using hv6), (by simpa [upd, updS] using hv9), (fun h1 => by have h1 := (by simpa [upd] using h1 : LJ 8 = false); simpa [updS] using Own.alloc (kP0 h1) _), (fun _ => by first | exact Own.lit (by omega) (by unfold maxLen; simp) (by rfl) (fun _ => rfl) | (simp only [updS_some, ↓reduceIte]; exact Own.lit (by omega) (by unfold maxLen; simp) (by rfl) (fun _ => rfl)) | (simpa [updS] using Own.lit (by omega) (by unfold maxLen; simp) (by rfl) (fun _ => rfl))), (fun h1 => by have h1 := (by simpa [upd] using h1 : LJ 8 = true); simpa [updS] using Own.alloc (kW8 h1) _), (fun h1 h2 => by have h1 := (by simpa [upd] using h1 : LJ 8 = false); simpa [updS] using Apart.new (kP0 h1) _ _), (fun h1 h2 => by have h2 := (by simpa [upd] using h2 : LJ 8 = true); simpa [updS] using (Apart.new (kW8 h2) _ _).symm)⟩
          · rintro LJ sJ wJ hL hd ⟨kB0, kB1, kB2, kC2, kO2, kLow, kSz, kKeep, kV9, kZ10_5, hs8, hs15, hs17, hv0, hv1, hv2, hv3, hv4, hv5, hv6, hv9, kP0, kW7, kW8, kEP0_W7, kEW7_W8⟩ K hK
            have ga5 := hd ⟨5, .data⟩ (by simp) rfl
            have gv5 := hv5 ga5
            have ga7 := hd ⟨7, .data⟩ (by simp) rfl
            clear hd
            rw [if_pos (by rfl)]
            have hcj : LJ 8 = false := hL
            have kWx := kP0 hcj
            have kWy := kW7 ga7
            obtain ⟨ay, cy, hvy, hry, hny⟩ := Own.slice (f := int1) (m := 1) (fun _ => rfl) kWy
            refine opF_app (d := 102) rfl (by decide) (.tmp 99) (.tmp 101) _ rfl 3 i1 _ 8 Try.underlying47 hi1 hz1 hy1 hx1 rfl (by decide) (fun _ => rfl) int_one (B80 + 1) xs[j].v xs[j].l [(i : Int)] ay cy (by go_simp) (by simpa using hvy) kWx hry (by simp; unfold maxLen; omega) (by simp; omega) (by omega) (fun v' w' hO hG hV => ?_)
            exact hK _ _ ⟨(Cells.grown (kB0) hG (Own.far kWx (by omega))), (Cells.grown (kB1) hG hn15), (fun h => by have h := (by simpa [upd] using h : LJ 10 = false); exact Cells.grown (kB2 h) hG (Own.far kWx (by omega))), (fun h => by have h := (by simpa [upd] using h : LJ 10 = true); exact absurd (kO2 h) (by rw [hL]; decide)), (by simp [upd]), (low_grown kLow hG (by omega) (fun k hk => by have := (World.ownsRow.lt kWx k hk).1; omega)), (by first | omega | (simp; done) | (simp; omega) | (have := hG.size; omega)), ((keep_app kKeep hG)), ((fun _ g hg => by have hg' : v'.ownBlock = some g := (by simpa [updS] using hg); have hsz := kKeep.sz; rcases hV with e | e <;> rw [e] at hg'; exact .inl hg'; cases hg'; exact .inr hsz)), (by simpa [upd] using kZ10_5), (by simpa [upd, updS] using hs8), (by simpa [upd, updS] using hs15), (by simpa [upd, updS] using hs17), (by simpa [upd, updS] using hv0), (by simpa [upd, updS] using hv1), (by simpa [upd, updS] using hv2), (by simpa [upd, updS] using hv3), (by simpa [upd, updS] using hv4), (by simpa [upd, updS] using hv5), (by simpa [upd, updS] using hv6), (by simpa [upd, updS] using hv9), (fun h1 => by simp [upd] at h1), (fun h1 => by have h1 := (by simpa [upd] using h1 : LJ 7 = true); simpa [updS] using Own.grown (kW7 h1) hG (kEP0_W7 hcj h1).symm), (fun _ => by first | exact hO | (simp only [updS_some, ↓reduceIte]; exact hO) | (simpa [updS] using hO)), (fun h1 h2 => by simp [upd] at h1), (fun h1 h2 => by have h1 := (by simpa [upd] using h1 : LJ 7 = true); simpa [updS] using Apart.app (kW7 h1) (kEP0_W7 hcj h1).symm hV)⟩
          · rintro LJ sJ wJ hL hd ⟨kB0, kB1, kB2, kC2, kO2, kLow, kSz, kKeep, kV9, kZ10_5, hs8, hs15, hs17, hv0, hv1, hv2, hv3, hv4, hv5, hv6, hv9, kP0, kW7, kW8, kEP0_W7, kEW7_W8⟩ K hK
            have ga0 := hd ⟨0, .data⟩ (by simp) rfl
            have gv0 := hv0 ga0
            have ga1 := hd ⟨1, .data⟩ (by simp) rfl
            have gv1 := hv1 ga1
            have ga0 := hd ⟨0, .phase⟩ (by simp) rfl
            have gv0 := hv0 ga0
            have ga1 := hd ⟨1, .phase⟩ (by simp) rfl
            have gv1 := hv1 ga1
            have ga2 := hd ⟨2, .phase⟩ (by simp) rfl
            have gv2 := hv2 ga2
            have ga3 := hd ⟨3, .phase⟩ (by simp) rfl
            have gv3 := hv3 ga3
            have ga4 := hd ⟨4, .phase⟩ (by simp) rfl
            have gv4 := hv4 ga4
            have ga5 := hd ⟨5, .phase⟩ (by simp) rfl
            have gv5 := hv5 ga5
            have ga6 := hd ⟨6, .phase⟩ (by simp) rfl
            have gv6 := hv6 ga6
            have ga7 := hd ⟨7, .phase⟩ (by simp) rfl
            have ga8 := hd ⟨8, .phase⟩ (by simp) rfl
            clear hd
            rw [if_pos (by rfl)]
            unfold opF
            go_simp
            refine hK _ _ ⟨?_, ?_, ?_, ?_, ?_, ?_, ?_, ?_, ?_, ?_, ?_, ?_, ?_, ?_, ?_, ?_, ?_, ?_, ?_, ?_, ?_, ?_, ?_, ?_, ?_, ?_⟩ <;> first | assumption | (simp [upd, updS]; done) | (simp [upd, updS]; assumption)
          · rintro LJ sJ wJ hL hd ⟨kB0, kB1, kB2, kC2, kO2, kLow, kSz, kKeep, kV9, kZ10_5, hs8, hs15, hs17, hv0, hv1, hv2, hv3, hv4, hv5, hv6, hv9, kP0, kW7, kW8, kEP0_W7, kEW7_W8⟩ K hK
            have ga9 := hd ⟨9, .data⟩ (by simp) rfl
            have gv9 := hv9 ga9
            have ga8 := hd ⟨8, .data⟩ (by simp) rfl
            have ga8 := hd ⟨8, .chain⟩ (by simp) rfl
            have ga0 := hd ⟨0, .phase⟩ (by simp) rfl
            have gv0 := hv0 ga0
            have ga1 := hd ⟨1, .phase⟩ (by simp) rfl
            have gv1 := hv1 ga1
            have ga2 := hd ⟨2, .phase⟩ (by simp) rfl
            have gv2 := hv2 ga2
            have ga3 := hd ⟨3, .phase⟩ (by simp) rfl
            have gv3 := hv3 ga3
            have ga4 := hd ⟨4, .phase⟩ (by simp) rfl
            have gv4 := hv4 ga4
            have ga5 := hd ⟨5, .phase⟩ (by simp) rfl
            have gv5 := hv5 ga5
            have ga6 := hd ⟨6, .phase⟩ (by simp) rfl
            have gv6 := hv6 ga6
            have ga7 := hd ⟨7, .phase⟩ (by simp) rfl
            have ga8 := hd ⟨8, .phase⟩ (by simp) rfl
            clear hd
            rw [if_pos (by rfl)]
            have kWs := kW8 (by first | assumption | exact ga8)
            obtain ⟨ay, cy, hvy, _, _⟩ := Own.slice (f := int1) (m := 1) (fun _ => rfl) kWs
            have kN2 := kB2 hL
            have ccs := kN2.1
            have ccz := kN2.2.2
            have cj := sls_cell kN2 hjx
            have Hvy := hid hvy
            unfold opF
            go_simp
            exact hK undef _ ⟨(Cells.setFar (kB0) (by omega)), (Cells.setFar (kB1) (by omega)), (by simp [upd]), (fun _ => by show Cells _ B80 (((xs.flatMap Sl.cs)).set j (sJ 102)); rw [Hvy.out]; have hz := kN2.set (i := j) (u := Value.slice ay ((xs[j].l ++ [(i : Int)])).length cy); first | exact hz | simpa using hz), (by simp [upd]; exact ga8), (kLow.setCell (by first | omega | (simp; omega)) _), (by first | omega | (simp; done) | (simp; omega) | (have := hG.size; omega)), ((keep_st kKeep _ _)), ((fun h => by simpa [upd, updS] using kV9 (by simpa [upd] using h))), (by simp [upd]; exact ga5), (by simpa [upd, updS] using hs8), (by simpa [upd, updS] using hs15), (by simpa [upd, updS] using hs17), (by simpa [upd, updS] using hv0), (by simpa [upd, updS] using hv1), (by simpa [upd, updS] using hv2), (by simpa [upd, updS] using hv3), (by simpa [upd, updS] using hv4), (by simpa [upd, updS] using hv5), (by simpa [upd, updS] using hv6), (by simpa [upd, updS] using hv9), (fun h1 => by have h1 := (by simpa [upd] using h1 : LJ 8 = false); simpa [updS] using Own.setFar' (kP0 h1) (by omega) _), (fun h1 => by have h1 := (by simpa [upd] using h1 : LJ 7 = true); simpa [updS] using Own.setFar' (kW7 h1) (by omega) _), (fun h1 => by have h1 := (by simpa [upd] using h1 : LJ 8 = true); simpa [updS] using Own.setFar' (kW8 h1) (by omega) _), (fun h1 h2 => by have h1 := (by simpa [upd] using h1 : LJ 8 = false); have h2 := (by simpa [upd] using h2 : LJ 7 = true); simpa [updS] using kEP0_W7 h1 h2), (fun h1 h2 => by have h1 := (by simpa [upd] using h1 : LJ 7 = true); have h2 := (by simpa [upd] using h2 : LJ 8 = true); simpa [updS] using kEW7_W8 h1 h2)⟩
         case hdie =>
          rintro ch Wx ⟨rfl, hpn, p, xs', g1, g2, g3, g4, g5, g6, g7, g8, g9, g10, g11, g12⟩ hDx
          rw [hDD] at hDx ⊢
          have hnb : ∀ b, b < D → b ∉ Ds → b ∉ D :: Ds := fun b h1 h2 h3 => by rcases List.mem_cons.1 h3 with h | h; omega; exact h2 h
          have hDD2 : ∀ E ∈ D :: Ds, Wx.heap[E]? = some (.deferred (some [])) := fun E hE => by rcases List.mem_cons.1 hE with h | h; rw [h]; exact hDx; exact g9 E h
          refine (rep_leave_pan (n := 106) (Ds := D :: Ds) (by decide) sl8 sl9 hDD2 (List.nodup_cons.2 ⟨fun h => by have := hVD2 _ h; omega, hdn.out⟩) g2 g3 (by omega) (fun h => by rcases List.mem_cons.1 h with h | h; omega; have := hdb.out _ h; omega) (fun h => by rcases List.mem_cons.1 h with h | h; omega; have := hdb.out _ h; omega) (fun w' ho => ?_) : bodyPostM _ _ _ _ _ (.panic _) (mkA _ _ _) _)
          refine rep_no ?_ ?_
          · unfold repRes; rw [if_neg (by rw [Her.out]; decide), hgo.out, repGo_down hlt hpn]
          · have b1 := below_shut (D :: Ds) _ g1 (fun E hE => by rcases List.mem_cons.1 hE with h | h; omega; have := hdb.out _ h; omega)
            exact b1.trans (ho.lowN b1.size (by simp; omega))
         case hdone =>
          rintro p wR ⟨hit, hrep⟩ hpn hDx
          rw [hDD] at hDx ⊢
          obtain ⟨xs', g1, g2, g3, g4, g5, g6, g7, g8, g9, g10, g11, g12⟩ := hrep
          simp only [mkA_tmps, mkA_defers, mkA_eta]
          have HB := hid (OldB.nil (Bs := []) g1)
          have Hpn2 := hid hpn
          clear hpn hit
          have hpo2 : PlanO (B80 + 1) [] wR xs' := ⟨g6.own, fun _ _ _ _ => by simp, g6.ap⟩
          have hdo2 : DefO (D :: Ds) wR := fun E hE => by rcases List.mem_cons.1 hE with h | h; rw [h]; exact hDx; exact g9 E h
          repeat ((fail_if_success refine stp ?_); with_reducible go_step)
          refine region_F ?_
          refine pl ?_
          refine pl ?_
          refine listF_abs (fun s108 hs' => ?_)
          replace sl1 := gs 1 hs' sl1; replace sl2 := gs 2 hs' sl2; replace sl3 := gs 3 hs' sl3; replace sl8 := gs 8 hs' sl8; replace sl9 := gs 9 hs' sl9; replace sl81 := gs 81 hs' sl81
          replace sl82 := gs 82 hs' sl82; replace sl83 := gu 83 hs'; clear hs' sl15 sl92
          refine listF_nil ?_
          repeat ((fail_if_success refine stp ?_); with_reducible go_step)
          refine ⟨_, _, _, rfl, ?_, i + 1, (D :: Ds), xs', (addPlan o i p), rfl, rfl, (by first | (with_reducible exact sl83) | (rw [sl83]; (with_reducible go_num); done) | (rw [sl83, IntWalk.i64_in] <;> first | ((with_reducible go_num); done) | omega) | (rw [sl83]; go_num; done) | (rw [sl83]; simp; done) | (rw [sl83]; simp; omega)), (sl1.trans hc1_1.out.symm), (sl2.trans hc1_2.out.symm), (sl3.trans hc1_3.out.symm), (sl8.trans hc1_8.out.symm), (sl9.trans hc1_9.out.symm), (sl81.trans hc1_81.out.symm), (sl82.trans hc1_82.out.symm), HB.out, by omega, g2, g3, g5, hpo2, g7, g8, hdo2, hid (fun E hE => by rcases List.mem_cons.1 hE with h | h; omega; exact hdb.out E h), hid (List.nodup_cons.2 ⟨fun h => by have := hVD2 _ h; omega, hdn.out⟩), hid g10, hid g11, hid (fun q h => by have h1 := g12 q h; have h2 := planR_len Hpn2.out; omega), hid (by rw [hgo.out, repGo_step hlt Hpn2.out])⟩
          omega
        ·skip
         have hge : i = rack.length := by have h := h84; rw [Hvl.out] at h; simp at h; omega
         subst hge
         have Hgo := hid (show repOut rack l f u = some o by rw [hgo.out, List.drop_length]; rfl)
         clear hvo hrp
         repeat ((fail_if_success refine stp ?_); with_reducible go_step)
         clear hc1_1 hc1_2 hc1_3 hc1_8 hc1_9 hc1_81 hc1_82
         refine region_F ?_
         have cb8_0 := kb8.cell 0 rfl
         refine pl ?_
         have zb8 := kb8.2.2
         refine pl ?_
         refine listF_absw (fun w109 hw' => ?_)
         have kb8' := cells_of hw' (Cells.set (i := 0) (kb8))
         (try simp only [vC, List.set_cons_zero, List.set_cons_succ] at kb8')
         have hb110 : OldB [B8] w97 w109 := oldset hw'
         clear hw'
         clear cb8_0 zb8
         clear qb8 qb9 qB80
         replace kb8 := kb8'
         replace kb9 := kb9.oldB hb110 (by first | (simp; done) | (simp; omega))
         replace kB80 := kB80.oldB hb110 (by first | (simp; done) | (simp; omega))
         replace hdo := DefO.oldB hdo hb110 (fun D hD => by first | (have := Hdl.out D hD; simp; omega) | (have := hdb.out D hD; simp; omega))
         replace hpo := PlanO.kept hpo (fun q hq g hg => hb110.block g (World.ownsRow.lt (hpo.own q hq) g hg).2 (fun hm => by first | (have := Hob.out q hq g hg; simp at hm; omega) | (have := (World.ownsRow.lt (hpo.own q hq) g hg).1; simp at hm; omega)))
         replace HB := hid (HB.out.more hb110 (by simp; try omega))
         clear hb110
         have qb8 := kb8.1
         have qb9 := kb9.1
         have qB80 := kB80.1
         clear kb8'
         have cb9_0 := kb9.cell 0 rfl
         have zb9 := kb9.2.2
         refine pl ?_
         refine listF_absw (fun w111 hw' => ?_)
         have kb9' := cells_of hw' (Cells.set (i := 0) (kb9))
         (try simp only [vC, List.set_cons_zero, List.set_cons_succ] at kb9')
         have hb112 : OldB [B9] w109 w111 := oldset hw'
         clear hw'
         clear cb9_0 zb9
         clear qb8 qb9 qB80
         replace kb9 := kb9'
         replace kb8 := kb8.oldB hb112 (by first | (simp; done) | (simp; omega))
         replace kB80 := kB80.oldB hb112 (by first | (simp; done) | (simp; omega))
         replace hdo := DefO.oldB hdo hb112 (fun D hD => by first | (have := Hdl.out D hD; simp; omega) | (have := hdb.out D hD; simp; omega))
         replace hpo := PlanO.kept hpo (fun q hq g hg => hb112.block g (World.ownsRow.lt (hpo.own q hq) g hg).2 (fun hm => by first | (have := Hob.out q hq g hg; simp at hm; omega) | (have := (World.ownsRow.lt (hpo.own q hq) g hg).1; simp at hm; omega)))
         replace HB := hid (HB.out.more hb112 (by simp; try omega))
         clear hb112
         have qb8 := kb8.1
         have qb9 := kb9.1
         have qB80 := kB80.1
         clear kb9'
         refine listF_abs (fun s113 hs' => ?_)
         replace sl8 := gs 8 hs' sl8; replace sl9 := gs 9 hs' sl9; clear hs' sl1 sl2 sl3 sl81 sl82 sl83 sl84
         refine listF_nil ?_
         repeat ((fail_if_success refine stp ?_); with_reducible go_step)
         have Hrr := hid (show repRes rack l f u = (o, 0) by unfold repRes; rw [if_neg (by rw [Her.out]; decide), Hgo.out])
         refine rep_leave_ret (Ds := Ds) (by decide) sl8 sl9 hdo hdn.out kb8 kb9 (fun h => by have := hdb.out _ h; omega) (fun h => by have := hdb.out _ h; omega) rfl ?_
         have hn80 : B80 ∉ Ds := fun h => by have := hdb.out _ h; omega
         have hpl := hpo.plan kB80
         exact ⟨some ⟨B80, 0, none⟩, xs, l.length, by rw [Hrr.out, hxl.out], plan_shut hpo kB80 hdo hn80, by rw [Hrr.out]; exact hxo.out, below_shut _ _ HB.out.toBelow (fun D hD => by have := hdb.out D hD; omega), fun b hb => by cases hb; simp; omega⟩

end Go.Proofs.Ytndcmmghgljinaa
