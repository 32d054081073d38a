/- The contracts of what a valve needs. -/
import Derived.Test.YtndcmmghgljinaaW1
set_option linter.all false
namespace Go.Proofs.Ytndcmmghgljinaa
open Go.RowKit


theorem idx_any' {α : Type} (p : α → Bool) (l : List α) : decide (idxOf p l ≥ 0) = l.any p := idx_any p l
theorem rd1 {w : World} {g : Nat} {x : Int} (h : Cells w g [.int .i64 x]) : RdInts w (some ⟨g, 0, none⟩) [x] := Cells.rd (f := int1) (m := 1) (l := [x]) (fun _ => rfl) h
theorem rd2 {w : World} {g : Nat} {x y : Int} (h : Cells w g [.int .i64 x, .int .i64 y]) : RdInts w (some ⟨g, 0, none⟩) [x, y] := Cells.rd (f := int1) (m := 1) (l := [x, y]) (fun _ => rfl) h
def outB (hi : Int) (l : List Int) : Bool := l.any (fun n => !inb n 0 hi)
/-- the cells of a valve -/
abbrev vC (k : Kd) (a : Option Addr) (c : Nat) (s : Span) (h : Int) : List Value := [.int .i64 k.new, .int .i64 k.wear.lo, .int .i64 k.wear.hi, .slice a k.steps.length c, .int .i64 s.lo, .int .i64 s.hi, .int .i64 h]
abbrev leV (v : Int) (s : Stp) : Bool := decide (s.volt ≤ v)
theorem idx_needed {k : Kd} (hK : KOk k) {v : Int} (hv : voltOk k v = true) : ∃ i, ∃ h : i < k.steps.length, idxOf (leV v) k.steps = i ∧ needed k v = k.steps[i].need := by
  obtain ⟨i, hi, h1, h2, h3⟩ := needed_ex hK hv; refine ⟨i, hi, idx_found hi ?_ (by simpa using h1), h3⟩; rw [List.any_eq_false]; intro x hx; obtain ⟨j, hj, rfl⟩ := List.mem_take_iff_getElem.1 hx; have := h2 j (by omega)
  simp; omega

set_option maxRecDepth 100000 in
set_option maxHeartbeats 1000000 in
theorem conInt_any (a : Option Addr) (c : Nat) (l : List Int) (hi : Int) (B : Nat) (w : World) (hl : l.length ≤ 9223372036854775807) (hR : RdInts w a l) (hB : w.cell? ⟨B, 0, none⟩ = some (.int .i64 hi)) (hBs : B < w.heap.size) :
    Calls Try.prog 68 #[.slice a l.length c, .func (.func 69) #[] #[.pointer (some ⟨B, 0, none⟩)]] w (fun e w' => e = .returned (.bool (outB hi l)) ∧ Below w.heap.size w w') := by
 have HR := hid hR; clear hR
 refine enter_F Try.func68 rfl Try.ntmps68 (by simp) ?_
 intro s0 hs; have sl0 : s0 0 = .slice a l.length c := hs 0 (by simp); have sl1 : s0 1 = .func (.func 69) #[] #[.pointer (some ⟨B, 0, none⟩)] := hs 1 (by simp); clear hs; have HB := hid (OldB.refl [] w)
 repeat ((fail_if_success refine stp ?_); with_reducible go_step)
 refine region_F ?_; refine pl ?_; refine listF_abs (fun s1 z' => ?_); replace sl0 := gs 0 z' sl0; replace sl1 := gs 1 z' sl1; clear z'; refine listF_nil ?_
 repeat ((fail_if_success refine stp ?_); with_reducible go_step)
 refine region_F ?_; refine pl ?_; refine pl ?_; refine listF_step rfl (fun K' hK => ?_); unfold opF; go_simp; refine (idxInt_any a c l hi B _ hl HR.out hB hBs).mono ?_; rintro e w2 ⟨rfl, hb3⟩; refine ⟨_, rfl, hK _ _ ?_⟩; clear hK K'; replace HB := hid (HB.out.below hb3); clear hb3; refine pl ?_; refine pl ?_; refine listF_abs (fun s4 z' => ?_); have sl4 := gu 4 z'; clear z' sl0 sl1; refine listF_nil ?_
 repeat ((fail_if_success refine stp ?_); with_reducible go_step)
 refine ret_F _ (res_t Try.results68 ((getD_F (by decide)).trans sl4)) ?_; exact ⟨ret_bool (idx_any' _ _), HB.out.toBelow⟩

set_option maxRecDepth 100000 in
set_option maxHeartbeats 1000000 in
theorem out_any (hi : Int) (a : Option Addr) (c : Nat) (l : List Int) (w : World) (hl : l.length ≤ 9223372036854775807) (hR : RdInts w a l) :
    Calls Try.prog 51 #[.int .i64 hi, .slice a l.length c] w (fun e w' => e = .returned (.bool (outB hi l)) ∧ Below w.heap.size w w') := by
 have HR := hid hR; clear hR
 refine enter_F Try.func51 rfl Try.ntmps51 (by simp) ?_
 intro s0 hs; have sl0 : s0 0 = .int .i64 hi := hs 0 (by simp); have sl1 : s0 1 = .slice a l.length c := hs 1 (by simp); clear hs; have HB := hid (OldB.refl [] w)
 repeat ((fail_if_success refine stp ?_); with_reducible go_step)
 refine region_F ?_; refine pa (fun w1 B2 hB kb2' hb2 => ?_); have gb2 := HB.out.gB hB; have eb2 := eB hB; clear hB; replace HB := hid (HB.out.below hb2); clear hb2; have kb2 := kb2'; clear kb2'; have qb2 := kb2.1; refine pl ?_; refine listF_abs (fun s3 z' => ?_); replace sl1 := gs 1 z' sl1; have sl2 := gu 2 z'; clear z' sl0; refine listF_nil ?_
 repeat ((fail_if_success refine stp ?_); with_reducible go_step)
 refine region_F ?_; refine pl ?_; refine pl ?_; refine listF_step rfl (fun K' hK => ?_); unfold opF; go_simp; refine (conInt_any a c l hi B2 _ hl (Rd.oldB HR.out HB.out (by simp)) (kb2.cell 0 rfl) kb2.1).mono ?_; rintro e w4 ⟨rfl, hb5⟩; refine ⟨_, rfl, hK _ _ ?_⟩; clear hK K'; clear qb2; replace kb2 := kb2.at hb5; replace HB := hid (HB.out.below hb5); clear hb5; have qb2 := kb2.1; refine pl ?_; refine listF_abs (fun s6 z' => ?_); have sl4 := gu 4 z'; clear z' sl1 sl2; refine listF_nil ?_
 repeat ((fail_if_success refine stp ?_); with_reducible go_step)
 refine ret_F _ (res_t Try.results51 ((getD_F (by decide)).trans sl4)) ?_; exact ⟨rfl, HB.out.toBelow⟩

set_option maxRecDepth 100000 in
set_option maxHeartbeats 1000000 in
theorem need1_any (s : Stp) (v : Int) (B : Nat) (w : World) (hB : w.cell? ⟨B, 0, none⟩ = some (.int .i64 v)) (hBs : B < w.heap.size) :
    Calls Try.prog 67 #[.agg #[.int .i64 s.volt, .int .i64 s.need], .pointer (some ⟨B, 0, none⟩)] w (fun e w' => e = .returned (.bool (leV v s)) ∧ Below w.heap.size w w') := by
 refine enter_F Try.func67 rfl Try.ntmps67 (by simp) ?_
 intro s0 hs; have sl0 : s0 0 = .agg #[.int .i64 s.volt, .int .i64 s.need] := hs 0 (by simp); have sl1 : s0 1 = .pointer (some ⟨B, 0, none⟩) := hs 1 (by simp); clear hs; have HB := hid (OldB.refl [] w)
 repeat ((fail_if_success refine stp ?_); with_reducible go_step)
 refine region_F ?_; refine pa (fun w1 B2 hB kb2' hb2 => ?_); have gb2 := HB.out.gB hB; have eb2 := eB hB; clear hB; replace HB := hid (HB.out.below hb2); clear hb2; have kb2 := kb2'; clear kb2'; have qb2 := kb2.1; refine pl ?_; refine listF_abs (fun s3 z' => ?_); replace sl1 := gs 1 z' sl1; have sl2 := gu 2 z'; clear z' sl0; refine listF_nil ?_
 repeat ((fail_if_success refine stp ?_); with_reducible go_step)
 refine region_F ?_; refine pl ?_; have cb2_0 := kb2.cell 0 rfl; have cb2_1 := kb2.cell 1 rfl; refine pl ?_; have hB' := (HB.out.toBelow.cell (p := ⟨B, 0, none⟩) hBs).trans hB
 iterate 3 refine pl ?_
 refine listF_abs (fun s4 z' => ?_); have sl3 := gu 3 z'; clear z' sl1 sl2; refine listF_nil ?_
 repeat ((fail_if_success refine stp ?_); with_reducible go_step)
 refine ret_F _ (res_t Try.results67 ((getD_F (by decide)).trans sl3)) ?_; exact ⟨rfl, HB.out.toBelow⟩

set_option maxRecDepth 100000 in
set_option maxHeartbeats 1000000 in
theorem idxStp_any (a : Option Addr) (c : Nat) (l : List Stp) (v : Int) (B : Nat) (w : World) (hl : l.length ≤ 9223372036854775807) (hR : RdSteps w a l) (hB : w.cell? ⟨B, 0, none⟩ = some (.int .i64 v)) (hBs : B < w.heap.size) :
    Calls Try.prog 66 #[.slice a l.length c, .func (.func 67) #[] #[.pointer (some ⟨B, 0, none⟩)]] w (fun e w' => e = .returned (.int .i64 (idxOf (leV v) l)) ∧ Below w.heap.size w w') := by
 have HR := hid hR; clear hR
 refine enter_F Try.func66 rfl Try.ntmps66 (by simp) ?_
 intro s0 hs; have sl0 : s0 0 = .slice a l.length c := hs 0 (by simp); have sl1 : s0 1 = .func (.func 67) #[] #[.pointer (some ⟨B, 0, none⟩)] := hs 1 (by simp); clear hs; have HB := hid (OldB.refl [] w)
 repeat ((fail_if_success refine stp ?_); with_reducible go_step)
 refine region_F ?_; refine pl ?_; refine listF_abs (fun s1 z' => ?_); replace sl0 := gs 0 z' sl0; replace sl1 := gs 1 z' sl1; clear z'; refine listF_nil ?_
 repeat ((fail_if_success refine stp ?_); with_reducible go_step)
 refine region_F ?_
 iterate 3 refine pl ?_
 refine listF_abs (fun s2 z' => ?_); replace sl0 := gs 0 z' sl0; replace sl1 := gs 1 z' sl1; have sl7 := gu 7 z'; have sl8 := gu 8 z'; clear z'; refine listF_nil ?_
 repeat ((fail_if_success refine stp ?_); with_reducible go_step)
 have hc0_0 := hid sl0; have hc0_1 := hid sl1; have hc0_7 := hid sl7; refine loop_F (n := 19) (fun kJ sJ wJ => ∃ (k : Nat), kJ = l.length - k ∧ sJ 8 = .int .i64 (k : Int) ∧ sJ 0 = s2 0 ∧ sJ 1 = s2 1 ∧ sJ 7 = s2 7 ∧ OldB [] w wJ ∧ k ≤ l.length ∧ Hid ((l.take k).any (leV v) = false)) ⟨0, rfl, (by first | exact sl8 | (rw [sl8]; go_num) | (rw [sl8]; rfl)), rfl, rfl, rfl, OldB.refl _ _, Nat.zero_le _, hid rfl⟩ ?_; clear sl8; rintro kJ s3 w4 ⟨k, rfl, sl8, e0, e1, e7, hb5, hkl, hno⟩; replace sl0 := e0.trans sl0; clear e0; replace sl1 := e1.trans sl1; clear e1; replace sl7 := e7.trans sl7; clear e7; have hoJ := hb5; replace HB := hid (HB.out.more hb5 (by simp; try omega)); clear hb5; have HoJ := hid hoJ; clear hoJ; have HL6 := HoJ; clear HoJ
 repeat ((fail_if_success refine stp ?_); with_reducible go_step)
 refine region_F ?_; refine pl ?_; refine listF_abs (fun s7 z' => ?_); replace sl0 := gs 0 z' sl0; replace sl1 := gs 1 z' sl1; replace sl7 := gs 7 z' sl7; replace sl8 := gs 8 z' sl8; have sl9 := gu 9 z'; clear z'; refine listF_nil ?_
 repeat ((fail_if_success refine stp ?_); with_reducible go_step)
 refine cond_E sl9 (by decide) ?_ ?_ <;> (clear sl9; intro h9 sl9)
 ·skip
  have hlt : k < l.length := by simpa using h9
  obtain ⟨b, off, rfl, hb, h0, h1⟩ := RdSteps.ne (Rd.oldB HR.out HB.out (by simp)) hlt
  repeat ((fail_if_success refine stp ?_); with_reducible go_step)
  refine region_F ?_; refine pl ?_; refine pl ?_; refine listF_abs (fun s8 z' => ?_); replace sl0 := gs 0 z' sl0; replace sl1 := gs 1 z' sl1; have sl5 := gu 5 z'; replace sl7 := gs 7 z' sl7; replace sl8 := gs 8 z' sl8; clear z' sl9; refine listF_nil ?_
  repeat ((fail_if_success refine stp ?_); with_reducible go_step)
  refine region_F ?_
  iterate 5 refine pl ?_
  refine listF_step rfl (fun K' hK => ?_); unfold opF; go_simp; refine (need1_any l[k] v B _ ((HB.out.toBelow.cell (p := ⟨B, 0, none⟩) hBs).trans hB) (Nat.lt_of_lt_of_le hBs HB.out.size)).mono ?_; rintro e w9 ⟨rfl, hb10⟩; refine ⟨_, rfl, hK _ _ ?_⟩; clear hK K'; replace HL6 := hid (HL6.out.below hb10); replace HB := hid (HB.out.below hb10); clear hb10; refine listF_abs (fun s11 z' => ?_); replace sl0 := gs 0 z' sl0; replace sl1 := gs 1 z' sl1; replace sl5 := gs 5 z' sl5; replace sl7 := gs 7 z' sl7; replace sl8 := gs 8 z' sl8; have sl16 := gu 16 z'; clear z'; refine listF_nil ?_
  repeat ((fail_if_success refine stp ?_); with_reducible go_step)
  refine cond_E sl16 (by decide) ?_ ?_ <;> (clear sl16; intro h16 sl16)
  ·skip
   have Hpk := hid (idx_found hlt hno.out h16)
   repeat ((fail_if_success refine stp ?_); with_reducible go_step)
   refine region_F ?_; refine pl ?_; refine pl ?_; refine listF_abs (fun s12 z' => ?_); have sl4 := gu 4 z'; clear z' sl0 sl1 sl5 sl7 sl8 sl16; refine listF_nil ?_
   repeat ((fail_if_success refine stp ?_); with_reducible go_step)
   refine ret_F _ (res_t Try.results66 ((getD_F (by decide)).trans sl4)) ?_; exact ⟨ret_int Hpk.out.symm, HB.out.toBelow⟩
  ·skip
   have hpk := hid h16
   repeat ((fail_if_success refine stp ?_); with_reducible go_step)
   refine region_F ?_; refine pl ?_; refine pl ?_; refine listF_abs (fun s13 z' => ?_); replace sl0 := gs 0 z' sl0; replace sl1 := gs 1 z' sl1; replace sl7 := gs 7 z' sl7; replace sl8 := gu 8 z'; clear z' sl5 sl16; refine listF_nil ?_
   repeat ((fail_if_success refine stp ?_); with_reducible go_step)
   refine ⟨_, _, rfl, ?_, k + 1, rfl, (by first | (with_reducible exact sl8) | (rw [sl8]; (with_reducible go_num); done) | (rw [sl8, IntWalk.i64_in] <;> first | ((with_reducible go_num); done) | omega) | (rw [sl8]; go_num; done) | (rw [sl8]; simp; done) | (rw [sl8]; simp; omega)), (sl0.trans hc0_0.out.symm), (sl1.trans hc0_1.out.symm), (sl7.trans hc0_7.out.symm), HL6.out, by omega, hid (by rw [any_take_succ _ _ _ hlt, hno.out, hpk.out]; rfl)⟩
   omega
 ·skip
  have hge : l.length ≤ k := by simpa using h9
  have hno2 : l.any (leV v) = false := by have := hno.out; rwa [List.take_of_length_le hge] at this
  have Hno := hid hno2; clear hno2
  repeat ((fail_if_success refine stp ?_); with_reducible go_step)
  clear HL6; clear hc0_0 hc0_1 hc0_7; refine region_F ?_; refine pl ?_; refine listF_abs (fun s14 z' => ?_); have sl4 := gu 4 z'; clear z' sl0 sl1 sl7 sl8 sl9; refine listF_nil ?_
  repeat ((fail_if_success refine stp ?_); with_reducible go_step)
  refine ret_F _ (res_t Try.results66 ((getD_F (by decide)).trans sl4)) ?_; exact ⟨ret_int (idx_none Hno.out).symm, HB.out.toBelow⟩

set_option maxRecDepth 100000 in
set_option maxHeartbeats 1000000 in
theorem need_any (V : Nat) (k : Kd) (a : Option Addr) (c : Nat) (s : Span) (h : Int) (v : Int) (w : World) (hV : Cells w V (vC k a c s h)) (hR : RdSteps w a k.steps) (hK : KOk k) (hv : voltOk k v = true) :
    Calls Try.prog 49 #[.pointer (some ⟨V, 0, none⟩), .int .i64 v] w (fun e w' => e = .returned (.int .i64 (needed k v)) ∧ Below w.heap.size w w') := by
 have HR := hid hR; have hsl := hK.l1; obtain ⟨i, hi, hix, hn⟩ := idx_needed hK hv; have Hix := hid hix; have Hn := hid hn; clear hR hix hn hK hv; have kV := hV
 refine enter_F Try.func49 rfl Try.ntmps49 (by simp) ?_
 intro s0 hs; have sl0 : s0 0 = .pointer (some ⟨V, 0, none⟩) := hs 0 (by simp); have sl1 : s0 1 = .int .i64 v := hs 1 (by simp); clear hs; have HB := hid (OldB.refl [] w); have qV := kV.1
 repeat ((fail_if_success refine stp ?_); with_reducible go_step)
 refine region_F ?_; refine pa (fun w1 B3 hB kb3' hb2 => ?_); have gb3 := HB.out.gB hB; have oV_b3 := oB qV hB; have eb3 := eB hB; clear hB; clear qV; replace kV := kV.at hb2; replace HB := hid (HB.out.below hb2); clear hb2; have qV := kV.1; have kb3 := kb3'; clear kb3'; have qb3 := kb3.1; refine pl ?_; refine listF_abs (fun s3 z' => ?_); replace sl0 := gs 0 z' sl0; have sl3 := gu 3 z'; clear z' sl1; refine listF_nil ?_
 repeat ((fail_if_success refine stp ?_); with_reducible go_step)
 refine region_F ?_
 iterate 4 refine pl ?_
 have cV_0 := kV.cell 0 rfl; have cV_1 := kV.cell 1 rfl; have cV_2 := kV.cell 2 rfl; have cV_3 := kV.cell 3 rfl; have cV_4 := kV.cell 4 rfl; have cV_5 := kV.cell 5 rfl; have cV_6 := kV.cell 6 rfl; refine pl ?_; refine pl ?_; refine listF_step rfl (fun K' hK => ?_); unfold opF; go_simp; refine (idxStp_any a c k.steps v B3 _ (by omega) (Rd.oldB HR.out HB.out (by simp)) (kb3.cell 0 rfl) kb3.1).mono ?_; rintro e w4 ⟨rfl, hb5⟩; rw [Hix.out]; refine ⟨_, rfl, hK _ _ ?_⟩; clear hK K'; clear cV_0 cV_1 cV_2 cV_3 cV_4 cV_5 cV_6; clear qV qb3; replace kV := kV.at hb5; replace kb3 := kb3.at hb5; replace HB := hid (HB.out.below hb5); clear hb5; have qV := kV.1; have qb3 := kb3.1; refine pl ?_; refine listF_abs (fun s6 z' => ?_); replace sl0 := gs 0 z' sl0; have sl5 := gu 5 z'; clear z' sl3; refine listF_nil ?_
 repeat ((fail_if_success refine stp ?_); with_reducible go_step)
 refine region_F ?_
 iterate 4 refine pl ?_
 have cV_0 := kV.cell 0 rfl; have cV_1 := kV.cell 1 rfl; have cV_2 := kV.cell 2 rfl; have cV_3 := kV.cell 3 rfl; have cV_4 := kV.cell 4 rfl; have cV_5 := kV.cell 5 rfl; have cV_6 := kV.cell 6 rfl; refine pl ?_; refine pl ?_; obtain ⟨b, off, rfl, hbs, h0, h1⟩ := RdSteps.ne (Rd.oldB HR.out HB.out (by simp)) hi
 iterate 4 refine pl ?_
 refine listF_abs (fun s7 z' => ?_); have sl4 := gu 4 z'; clear z' sl0 sl5; refine listF_nil ?_
 repeat ((fail_if_success refine stp ?_); with_reducible go_step)
 refine ret_F _ (res_t Try.results49 ((getD_F (by decide)).trans sl4)) ?_; exact ⟨ret_int Hn.out.symm, HB.out.toBelow⟩

set_option maxRecDepth 100000 in
set_option maxHeartbeats 1000000 in
theorem silent_any (V : Nat) (k : Kd) (a : Option Addr) (c : Nat) (s : Span) (h : Int) (v : Int) (w : World) (hV : Cells w V (vC k a c s h)) (hR : RdSteps w a k.steps) (hK : KOk k) :
    Calls Try.prog 48 #[.pointer (some ⟨V, 0, none⟩), .int .i64 v] w (fun e w' => e = .returned (.bool (!voltOk k v)) ∧ Below w.heap.size w w') := by
 obtain ⟨m, hm⟩ : ∃ m, k.steps.length = m + 1 := ⟨k.steps.length - 1, by have := hK.l0; omega⟩; have hsl := hK.l1
 have hlt : m < k.steps.length := by omega
 have hm8 : m ≤ 7 := by omega
 have hm9 : (m : Int) < (m : Int) + 1 := by omega
 have hwm : IntKind.i64.wrap (m : Int) = m := IntWalk.i64_in _ (by omega); have Hok := hid (show voltOk k v = inb v k.steps[m].volt 1000 by unfold voltOk; simp only [hm, Nat.add_sub_cancel]; rw [getD_get hlt]); have HR := hid hR; clear hR hK; have kV := hV
 refine enter_F Try.func48 rfl Try.ntmps48 (by simp) ?_
 intro s0 hs; have sl0 : s0 0 = .pointer (some ⟨V, 0, none⟩) := hs 0 (by simp); have sl1 : s0 1 = .int .i64 v := hs 1 (by simp); clear hs; have HB := hid (OldB.refl [] w); have qV := kV.1
 repeat ((fail_if_success refine stp ?_); with_reducible go_step)
 refine region_F ?_; refine pl ?_; refine listF_abs (fun s1 z' => ?_); replace sl0 := gs 0 z' sl0; replace sl1 := gs 1 z' sl1; clear z'; refine listF_nil ?_
 repeat ((fail_if_success refine stp ?_); with_reducible go_step)
 obtain ⟨b, off, rfl, hbs, h0, h1⟩ := RdSteps.ne (Rd.oldB HR.out HB.out (by simp)) hlt
 rcases dec_or (v < k.steps[m].volt) with t1 | t1
 ·skip
  have cV_0 := kV.cell 0 rfl; have cV_1 := kV.cell 1 rfl; have cV_2 := kV.cell 2 rfl; have cV_3 := kV.cell 3 rfl; have cV_4 := kV.cell 4 rfl; have cV_5 := kV.cell 5 rfl; have cV_6 := kV.cell 6 rfl; refine regionQ_F (Below w.heap.size w) (by kernel_rfl) (by kernel_rfl) (Below.refl _ _).drew ?_
  iterate 18 refine lq ?_
  refine lqn true ?_; refine lqn true ?_; refine lq ?_; refine lq ?_; refine listQ_nil ?_; intro w2 hb3; clear cV_0 cV_1 cV_2 cV_3 cV_4 cV_5 cV_6; clear qV; replace kV := kV.at hb3; replace HB := hid (HB.out.below hb3); clear hb3; have qV := kV.1
  repeat ((fail_if_success refine stp ?_); with_reducible go_step)
  refine ret_abs (fun s4 z' => ?_); have sl4 := gu 4 z'; clear z' sl0 sl1; refine ret_F _ (res_t Try.results48 ((getD_F (by decide)).trans sl4)) ?_; refine ⟨ret_bool ?_, HB.out.toBelow⟩; rw [Hok.out]; unfold inb; rw [Bool.eq_iff_iff]; simp at *; try omega
 ·skip
  have cV_0 := kV.cell 0 rfl; have cV_1 := kV.cell 1 rfl; have cV_2 := kV.cell 2 rfl; have cV_3 := kV.cell 3 rfl; have cV_4 := kV.cell 4 rfl; have cV_5 := kV.cell 5 rfl; have cV_6 := kV.cell 6 rfl; refine regionQ_F (Below w.heap.size w) (by kernel_rfl) (by kernel_rfl) (Below.refl _ _).drew ?_
  iterate 18 refine lq ?_
  refine lqy ?_; refine lqy ?_; refine lq ?_; refine lq ?_; refine listQ_nil ?_; intro w5 hb6; clear cV_0 cV_1 cV_2 cV_3 cV_4 cV_5 cV_6; clear qV; replace kV := kV.at hb6; replace HB := hid (HB.out.below hb6); clear hb6; have qV := kV.1
  repeat ((fail_if_success refine stp ?_); with_reducible go_step)
  refine ret_abs (fun s7 z' => ?_); have sl4 := gu 4 z'; clear z' sl0 sl1; refine ret_F _ (res_t Try.results48 ((getD_F (by decide)).trans sl4)) ?_; refine ⟨ret_bool ?_, HB.out.toBelow⟩; rw [Hok.out]; unfold inb; rw [Bool.eq_iff_iff]; simp at *; try omega

end Go.Proofs.Ytndcmmghgljinaa
