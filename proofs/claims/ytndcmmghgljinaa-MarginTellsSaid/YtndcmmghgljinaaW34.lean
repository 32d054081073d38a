/- Less, IsSorted, Clone. -/
import Derived.Test.YtndcmmghgljinaaW18
set_option linter.all false
namespace Go.Proofs.Ytndcmmghgljinaa
open Go.RowKit


/-- no number is less than the one ahead of it -/
def ndec (l : List Int) : Bool := (List.range (l.length - 1)).all fun i => decide (l.getD i 0 ≤ l.getD (i + 1) 0)
/-- some number equals the one ahead of it -/
def dups (l : List Int) : Bool := (List.range (l.length - 1)).any fun i => decide (l.getD i 0 = l.getD (i + 1) 0)
theorem ndec_iff {l : List Int} : ndec l = true ↔ ∀ i (h : i + 1 < l.length), l[i] ≤ l[i + 1] := by
  unfold ndec; rw [List.all_eq_true]
  constructor
  · intro h i hi
    have := h i (List.mem_range.2 (by omega)); rw [getD_get (show i < l.length by omega), getD_get hi] at this
    simpa using this
  · intro h i hi
    have hi' := List.mem_range.1 hi; rw [getD_get (show i < l.length by omega), getD_get (show i + 1 < l.length by omega)]
    simpa using h i (by omega)
theorem dups_iff {l : List Int} : dups l = true ↔ ∃ i, ∃ h : i + 1 < l.length, l[i] = l[i + 1] := by
  unfold dups; rw [List.any_eq_true]
  constructor
  · rintro ⟨i, hi, h⟩
    have hi' := List.mem_range.1 hi; rw [getD_get (show i < l.length by omega), getD_get (show i + 1 < l.length by omega)] at h; exact ⟨i, by omega, by simpa using h⟩
  · rintro ⟨i, hi, h⟩
    refine ⟨i, List.mem_range.2 (by omega), ?_⟩; rw [getD_get (show i < l.length by omega), getD_get hi]
    simpa using h

set_option maxRecDepth 100000 in
set_option maxHeartbeats 1000000 in
theorem isnan_any (x : Int) (w : World) :
    Calls Try.prog 87 #[.int .i64 x] w (fun e w' => e = .returned (.bool false) ∧ w = w') := by
 refine enter_F Try.func87 rfl Try.ntmps87 (by simp) ?_
 intro s0 hs; have sl0 : s0 0 = .int .i64 x := hs 0 (by simp); clear hs; have HB := hid (OldB.refl [] w)
 repeat ((fail_if_success refine stp ?_); with_reducible go_step)
 refine region_F ?_; refine pl ?_; refine listF_abs (fun s1 z' => ?_); replace sl0 := gs 0 z' sl0; clear z'; refine listF_nil ?_
 repeat ((fail_if_success refine stp ?_); with_reducible go_step)
 refine region_F ?_
 iterate 4 refine pl ?_
 refine listF_abs (fun s2 z' => ?_); have sl2 := gu 2 z'; clear z' sl0; refine listF_nil ?_
 repeat ((fail_if_success refine stp ?_); with_reducible go_step)
 refine ret_F _ (res_t Try.results87 ((getD_F (by decide)).trans sl2)) ?_; exact ⟨rfl, rfl⟩

set_option maxRecDepth 100000 in
set_option maxHeartbeats 1000000 in
theorem less_any (x y : Int) (w : World) :
    Calls Try.prog 79 #[.int .i64 x, .int .i64 y] w (fun e w' => e = .returned (.bool (decide (x < y))) ∧ w = w') := by
 refine enter_F Try.func79 rfl Try.ntmps79 (by simp) ?_
 intro s0 hs; have sl0 : s0 0 = .int .i64 x := hs 0 (by simp); have sl1 : s0 1 = .int .i64 y := hs 1 (by simp); clear hs; have HB := hid (OldB.refl [] w)
 repeat ((fail_if_success refine stp ?_); with_reducible go_step)
 refine region_F ?_; refine pl ?_; refine listF_abs (fun s1 z' => ?_); replace sl0 := gs 0 z' sl0; replace sl1 := gs 1 z' sl1; clear z'; refine listF_nil ?_
 repeat ((fail_if_success refine stp ?_); with_reducible go_step)
 refine region_F ?_; refine pl ?_; refine listF_step rfl (fun K' hK => ?_); unfold opF; go_simp; refine (isnan_any x _).mono ?_; rintro e w' ⟨rfl, rfl⟩; refine ⟨_, rfl, hK _ _ ?_⟩; clear hK K'; refine pl ?_
 refine pn false ?_; refine pn false ?_; refine pn false ?_; refine pl ?_; refine pl ?_
 iterate 3 refine py ?_
 refine pl ?_; refine pl ?_; refine listF_abs (fun s3 z' => ?_); have sl4 := gu 4 z'; clear z' sl0 sl1; refine listF_nil ?_
 repeat ((fail_if_success refine stp ?_); with_reducible go_step)
 refine ret_F _ (res_t Try.results79 ((getD_F (by decide)).trans sl4)) ?_; exact ⟨rfl, rfl⟩

set_option maxRecDepth 100000 in
set_option maxHeartbeats 1000000 in
theorem issorted_any (al : Option Addr) (cl : Nat) (l : List Int) (w : World) (hRl : RdInts w al l) (hll : l.length ≤ 1000) :
    Calls Try.prog 61 #[.slice al l.length cl] w (fun e w' => e = .returned (.bool (ndec l)) ∧ Below w.heap.size w w') := by
 have HRl := hid hRl; clear hRl
 refine enter_F Try.func61 rfl Try.ntmps61 (by simp) ?_
 intro s0 hs; have sl0 : s0 0 = .slice al l.length cl := hs 0 (by simp); clear hs; have HB := hid (OldB.refl [] w)
 repeat ((fail_if_success refine stp ?_); with_reducible go_step)
 refine region_F ?_; refine pl ?_; refine listF_abs (fun s1 z' => ?_); replace sl0 := gs 0 z' sl0; clear z'; refine listF_nil ?_
 repeat ((fail_if_success refine stp ?_); with_reducible go_step)
 refine region_F ?_; refine pl ?_; refine pl ?_; have w0 : IntKind.i64.wrap ((l.length : Int) - 1) = (l.length : Int) - 1 := IntWalk.i64_in _ (by omega); refine pl ?_; refine pl ?_; refine listF_abs (fun s2 z' => ?_); replace sl0 := gs 0 z' sl0; have sl3 := gu 3 z'; clear z'; refine listF_nil ?_
 repeat ((fail_if_success refine stp ?_); with_reducible go_step)
 have hc0_0 := hid sl0; refine loop_F (n := 21) (fun kJ sJ wJ => ∃ (i : Nat), kJ = i + 1 ∧ sJ 3 = .int .i64 ((i : Int) - 1) ∧ sJ 0 = s2 0 ∧ OldB [] w wJ ∧ i ≤ l.length ∧ (Hid (∀ j (h : j + 1 < l.length), i ≤ j + 1 → l[j] ≤ l[j + 1]))) ⟨l.length, rfl, (by first | exact sl3 | (rw [sl3]; go_num) | (rw [sl3]; rfl)), rfl, OldB.refl _ _, Nat.le_refl _, hid (fun j h1 h2 => by omega)⟩ ?_; clear sl3; rintro kJ s3 w4 ⟨i, rfl, sl3, e0, hb5, hil, hnd⟩; replace sl0 := e0.trans sl0; clear e0; have hoJ := hb5; replace HB := hid (HB.out.more hb5 (by simp; try omega)); clear hb5; have HoJ := hid hoJ; clear hoJ; have HL6 := HoJ; clear HoJ
 repeat ((fail_if_success refine stp ?_); with_reducible go_step)
 refine region_F ?_; refine pl ?_; refine pl ?_; refine listF_abs (fun s7 z' => ?_); replace sl0 := gs 0 z' sl0; replace sl3 := gs 3 z' sl3; have sl8 := gu 8 z'; clear z'; refine listF_nil ?_
 repeat ((fail_if_success refine stp ?_); with_reducible go_step)
 refine cond_E sl8 (by decide) ?_ ?_ <;> (clear sl8; intro h8 sl8)
 ·skip
  obtain ⟨m, rfl⟩ : ∃ m, i = m + 2 := ⟨i - 2, by simp at h8; omega⟩
  have sl3' : s7 3 = .int .i64 ((m : Int) + 1) := by rw [sl3]; congr 1; omega
  clear sl3; have sl3 := sl3'; clear sl3'
  have hlt : m + 1 < l.length := by omega
  have hlt2 : m < l.length := by omega
  have hlt' : (m : Int) + 1 < l.length := by omega
  have hlt2' : (m : Int) < l.length := by omega
  have e1 : ((m : Int) + 1).toNat = m + 1 := by omega
  obtain ⟨b, off, rfl, hbs, c0⟩ := RdInts.ne (Rd.oldB HRl.out HB.out (by simp)) hlt; obtain ⟨b', off', hab, _, c1⟩ := RdInts.ne (Rd.oldB HRl.out HB.out (by simp)) hlt2
  cases hab
  have w1 : IntKind.i64.wrap ((m : Int) + 1 - 1) = (m : Int) := (IntWalk.i64_in _ (by omega)).trans (by omega); have w2 : IntKind.i64.wrap (m : Int) = (m : Int) := IntWalk.i64_in _ (by omega)
  repeat ((fail_if_success refine stp ?_); with_reducible go_step)
  refine regionQ_F (Below w4.heap.size w4) (by kernel_rfl) (by kernel_rfl) (Below.refl _ _).drew ?_
  iterate 9 refine lq ?_
  refine listQ_step (v := ?_) rfl ?_ ?_; rotate_left
  · focus (intro wq hwq; obtain ⟨hcq, hfq⟩ := bcell hwq; go_simp; have hQ := callQs (less_any l[m + 1] l[m] _) hwq; exact hQ)
  refine listQ_nil ?_; intro w8 hb9; replace HL6 := hid (HL6.out.below hb9); replace HB := hid (HB.out.below hb9); clear hb9
  repeat ((fail_if_success refine stp ?_); with_reducible go_step)
  refine wp_abs (fun s10 z' => ?_); replace sl0 := gs 0 z' sl0; replace sl3 := gs 3 z' sl3; have sl20 := gu 20 z'; clear z' sl8
  refine cond_E sl20 (by decide) ?_ ?_ <;> (clear sl20; intro h20 sl20)
  ·skip
   have Hnd := hid (show ndec l = false by cases hn : ndec l with | false => rfl | true => have h1 := ndec_iff.1 hn m hlt; simp at h20; omega)
   repeat ((fail_if_success refine stp ?_); with_reducible go_step)
   refine region_F ?_; refine pl ?_; refine listF_abs (fun s11 z' => ?_); have sl2 := gu 2 z'; clear z' sl0 sl3 sl20; refine listF_nil ?_
   repeat ((fail_if_success refine stp ?_); with_reducible go_step)
   refine ret_F _ (res_t Try.results61 ((getD_F (by decide)).trans sl2)) ?_; exact ⟨by rw [Hnd.out], HB.out.toBelow⟩
  ·skip
   have Hle := hid (show l[m] ≤ l[m + 1] by simpa using h20)
   repeat ((fail_if_success refine stp ?_); with_reducible go_step)
   refine region_F ?_
   iterate 3 refine pl ?_
   refine listF_abs (fun s12 z' => ?_); replace sl0 := gs 0 z' sl0; replace sl3 := gu 3 z'; clear z' sl20; refine listF_nil ?_
   repeat ((fail_if_success refine stp ?_); with_reducible go_step)
   refine ⟨_, _, rfl, ?_, m + 1, rfl, (by rw [sl3]; congr 1; (try simp); (try omega)), (sl0.trans hc0_0.out.symm), HL6.out, by omega, hid (fun j h1 h2 => by rcases Nat.lt_or_ge j (m + 1) with h | h <;> first | exact hnd.out j h1 (by omega) | (have e : j = m := (by omega); subst e; exact Hle.out))⟩
   omega
 ·skip
  have Hnd := hid (show ndec l = true from ndec_iff.2 fun j h => hnd.out j h (by simp at h8; omega))
  repeat ((fail_if_success refine stp ?_); with_reducible go_step)
  clear HL6; clear hc0_0; refine region_F ?_; refine pl ?_; refine listF_abs (fun s13 z' => ?_); have sl2 := gu 2 z'; clear z' sl0 sl3 sl8; refine listF_nil ?_
  repeat ((fail_if_success refine stp ?_); with_reducible go_step)
  refine ret_F _ (res_t Try.results61 ((getD_F (by decide)).trans sl2)) ?_; exact ⟨by rw [Hnd.out], HB.out.toBelow⟩

set_option maxRecDepth 100000 in
set_option maxHeartbeats 1000000 in
theorem cloneInt_none (c : Nat) (l : List Int) (w : World) (hl : l.length ≤ 1000) (hR : RdInts w none l) :
    Calls Try.prog 63 #[.slice none l.length c] w (fun e w' => ∃ v, e = .returned v ∧ Own int1 1 3 w.heap.size w' v l ∧ Below w.heap.size w w') := by
 obtain ⟨i0, hi0, hz0, hz1, hz2⟩ := info_parts info_int; have HR := hid hR; clear hR
 have hnil : ∀ w, (binOp .eql 47 (.slice none l.length c) (.slice none 0 0)).run Try.prog w = .ok (.bool true) w := fun w => Lib.run_eql_slice_nil w _ _ _ _ _ _ _ Try.underlying47
 refine enter_F Try.func63 rfl Try.ntmps63 (by simp) ?_
 intro s0 hs; have sl0 : s0 0 = .slice none l.length c := hs 0 (by simp); clear hs; have HB := hid (OldB.refl [] w)
 repeat ((fail_if_success refine stp ?_); with_reducible go_step)
 refine region_F ?_; refine pl ?_; refine listF_abs (fun s1 z' => ?_); replace sl0 := gs 0 z' sl0; clear z'; refine listF_nil ?_
 repeat ((fail_if_success refine stp ?_); with_reducible go_step)
 refine region_F ?_; refine pl ?_; refine pl ?_; refine listF_abs (fun s2 z' => ?_); replace sl0 := gs 0 z' sl0; have sl4 := gu 4 z'; clear z'; refine listF_nil ?_
 repeat ((fail_if_success refine stp ?_); with_reducible go_step)
 refine cond_t ?_
 repeat ((fail_if_success refine stp ?_); with_reducible go_step)
 refine region_F ?_; refine pl ?_; refine listF_abs (fun s3 z' => ?_); have sl2 := gu 2 z'; clear z' sl0 sl4; refine listF_nil ?_
 repeat ((fail_if_success refine stp ?_); with_reducible go_step)
 refine ret_F _ (res_t Try.results63 ((getD_F (by decide)).trans sl2)) ?_
 have hl0 : l = [] := by rcases HR.out with h | ⟨b, o, h, _⟩; exact h; cases h
 exact ⟨_, rfl, by rw [hl0]; exact Own.nil _ _ _ _ _, HB.out.toBelow⟩

set_option maxRecDepth 100000 in
set_option maxHeartbeats 1000000 in
theorem cloneInt_some (p : Addr) (c : Nat) (l : List Int) (w : World) (hl : l.length ≤ 1000) (hR : RdInts w (some p) l) :
    Calls Try.prog 63 #[.slice (some p) l.length c] w (fun e w' => ∃ v, e = .returned v ∧ Own int1 1 3 w.heap.size w' v l ∧ Below w.heap.size w w') := by
 obtain ⟨i0, hi0, hz0, hz1, hz2⟩ := info_parts info_int; have HR := hid hR; clear hR
 have hnil : ∀ w, (binOp .eql 47 (.slice (some p) l.length c) (.slice none 0 0)).run Try.prog w = .ok (.bool false) w := fun w => Lib.run_eql_slice_nil w _ _ _ _ _ _ _ Try.underlying47
 refine enter_F Try.func63 rfl Try.ntmps63 (by simp) ?_
 intro s0 hs; have sl0 : s0 0 = .slice (some p) l.length c := hs 0 (by simp); clear hs; have HB := hid (OldB.refl [] w)
 repeat ((fail_if_success refine stp ?_); with_reducible go_step)
 refine region_F ?_; refine pl ?_; refine listF_abs (fun s1 z' => ?_); replace sl0 := gs 0 z' sl0; clear z'; refine listF_nil ?_
 repeat ((fail_if_success refine stp ?_); with_reducible go_step)
 refine region_F ?_; refine pl ?_; refine pl ?_; refine listF_abs (fun s2 z' => ?_); replace sl0 := gs 0 z' sl0; have sl4 := gu 4 z'; clear z'; refine listF_nil ?_
 repeat ((fail_if_success refine stp ?_); with_reducible go_step)
 refine cond_f ?_
 repeat ((fail_if_success refine stp ?_); with_reducible go_step)
 refine region_F ?_; refine listF_step rfl (fun K' hK => ?_); unfold opF; go_simp; refine hK _ _ ?_; clear hK K'; refine listF_absw ?_; intro w3 hw'
 have hO5 : Own int1 1 3 w.heap.size w3 (.slice (some ⟨w.heap.size, 0, none⟩) 0 0) [] := by rw [hw']; exact Own.lit (l := ([] : List Int)) (Nat.le_refl _) (by unfold maxLen; simp) rfl (fun _ => rfl)
 have hb4 : Below w.heap.size w w3 := by rw [hw']; exact below_alloc1 _ _
 clear hw'; replace HB := hid (HB.out.below hb4); clear hb4; refine pl ?_; refine listF_step rfl (fun K' hK => ?_); have hzz := HB.out.size; refine opF_app (d := 7) rfl (by decide) (.tmp 5) (.tmp 6) _ rfl 3 i0 _ 8 Try.underlying47 hi0 hz0 hz1 hz2 rfl (by decide) (fun _ => rfl) int_one w.heap.size _ [] l (some p) c (by go_simp) (by go_simp) hO5 (Rd.oldB HR.out HB.out (by simp)) (by unfold maxLen; simp; omega) (by simp; omega) (by omega) (fun v7 w5 hO7 hG7 hV7 => hK _ _ ?_); clear hK K'; replace HB := hid (HB.out.grown hG7 (fun k hk => .inl (by simp [Value.ownBlock] at hk; omega))); have HO7 := hid hO7; clear hO5 hG7 hV7 hzz hO7; refine pl ?_; refine listF_abs (fun s7 z' => ?_); have sl2 := gu 2 z'; clear z' sl0 sl4; refine listF_nil ?_
 repeat ((fail_if_success refine stp ?_); with_reducible go_step)
 refine ret_F _ (res_t Try.results63 ((getD_F (by decide)).trans sl2)) ?_; exact ⟨_, rfl, HO7.out, HB.out.toBelow⟩

theorem cloneInt_any (a : Option Addr) (c : Nat) (l : List Int) (w : World) (hl : l.length ≤ 1000) (hR : RdInts w a l) :
    Calls Try.prog 63 #[.slice a l.length c] w fun e w' => ∃ v, e = .returned v ∧ Own int1 1 3 w.heap.size w' v l ∧ Below w.heap.size w w' := by
  cases a with
  | none => exact cloneInt_none c l w hl hR
  | some p => exact cloneInt_some p c l w hl hR

end Go.Proofs.Ytndcmmghgljinaa
