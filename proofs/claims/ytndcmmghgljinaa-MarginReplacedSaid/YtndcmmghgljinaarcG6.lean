/- Ranges over a function that panics; regions that draw their order inside a round; deferred calls that recover; loops whose rounds defer. -/
import Derived.Test.YtndcmmghgljinaarcW5
import Derived.Test.YtndcmmghgljinaarcW18
import Derived.Test.YtndcmmghgljinaarcM1
import Derived.RecoverIn
import Derived.OrdersIn
set_option linter.all false
namespace Go.Proofs.Ytndcmmghgljinaa

section
open Go.RowKit


/-- the last night among a, .., i - 1 in the hours from f to c; -1: none -/
def lastIn (l : List Int) (f c : Int) (a : Nat) : Nat → Int
  | 0 => -1
  | i + 1 => if a ≤ i ∧ f ≤ l.getD i 0 ∧ l.getD i 0 ≤ c then (i : Int) else lastIn l f c a i
theorem lastIn_bd (l : List Int) (f c : Int) (a : Nat) : ∀ i, -1 ≤ lastIn l f c a i ∧ lastIn l f c a i < i ∧ (0 ≤ lastIn l f c a i → (a : Int) ≤ lastIn l f c a i)
  | 0 => by unfold lastIn; omega
  | i + 1 => by have := lastIn_bd l f c a i; unfold lastIn; split <;> omega
theorem lastIn_start (l : List Int) (f c : Int) (a : Nat) : ∀ i, i ≤ a → lastIn l f c a i = -1
  | 0, _ => rfl
  | i + 1, h => by unfold lastIn; rw [if_neg (by omega)]; exact lastIn_start l f c a i (by omega)
theorem lastIn_succ {l : List Int} {f c : Int} {a i : Nat} (ha : a ≤ i) (hi : i < l.length) : lastIn l f c a (i + 1) = if inb l[i] f c = true then (i : Int) else lastIn l f c a i := by
  show (if a ≤ i ∧ f ≤ l.getD i 0 ∧ l.getD i 0 ≤ c then _ else _) = _
  rw [getD_get hi]
  by_cases h : f ≤ l[i] ∧ l[i] ≤ c
  · rw [if_pos ⟨ha, h⟩, if_pos ((inb_iff _ _ _).2 h)]
  · rw [if_neg (fun x => h x.2), if_neg (fun x => h ((inb_iff _ _ _).1 x))]
def newSpan (k : Kd) : Span := ⟨k.new, k.new⟩
def canAt (k : Kd) (t : Int) : Int := (failsOf k (newSpan k) t).earliest
/-- the nights of a plan, behind night a, of a valve that can fail at an hour -/
def planGo (k : Kd) (l : List Int) (f u : Int) : Nat → Int → Nat → Option (List Int)
  | 0, _, _ => none
  | n + 1, can, a => if can < 0 ∨ u < can then some [] else
      if lastIn l f can a l.length < 0 then none
      else (planGo k l f u n (canAt k (l.getD (lastIn l f can a l.length).toNat 0)) ((lastIn l f can a l.length).toNat + 1)).map (lastIn l f can a l.length :: ·)
def planR (k : Kd) (l : List Int) (can f u : Int) : Option (List Int) := planGo k l f u (l.length + 1) can 0
/-- so far: out; what is to come: the plan from can and a -/
def PlanI (k : Kd) (l : List Int) (can0 f u : Int) (n a : Nat) (can : Int) (out : List Int) : Prop := planR k l can0 f u = (planGo k l f u n can a).map (out ++ ·) ∧ l.length < n + a ∧ a ≤ l.length ∧ out.length ≤ a ∧ ∀ x ∈ out, 0 ≤ x ∧ x < l.length
theorem PlanI.start (k : Kd) (l : List Int) (can f u : Int) : PlanI k l can f u (l.length + 1) 0 can [] := ⟨by unfold planR; simp, by omega, by omega, by simp, by simp⟩
theorem PlanI.done {k : Kd} {l : List Int} {can0 f u : Int} {n a : Nat} {can : Int} {out : List Int} (h : PlanI k l can0 f u n a can out) (hc : can < 0 ∨ u < can) : planR k l can0 f u = some out := by
  obtain ⟨h1, h2, h3, _⟩ := h; obtain ⟨m, rfl⟩ : ∃ m, n = m + 1 := ⟨n - 1, by omega⟩; rw [h1]; show ((if can < 0 ∨ u < can then some [] else _) : Option (List Int)).map _ = _; rw [if_pos hc]; simp
theorem PlanI.down {k : Kd} {l : List Int} {can0 f u : Int} {n a : Nat} {can : Int} {out : List Int} (h : PlanI k l can0 f u n a can out) (hc : ¬ (can < 0 ∨ u < can)) (hl : lastIn l f can a l.length < 0) : planR k l can0 f u = none := by
  obtain ⟨h1, h2, h3, _⟩ := h; obtain ⟨m, rfl⟩ : ∃ m, n = m + 1 := ⟨n - 1, by omega⟩; rw [h1]; show ((if can < 0 ∨ u < can then some [] else if lastIn l f can a l.length < 0 then none else _) : Option (List Int)).map _ = _; rw [if_neg hc, if_pos hl]; rfl
theorem PlanI.next {k : Kd} {l : List Int} {can0 f u : Int} {n a : Nat} {can : Int} {out : List Int} (h : PlanI k l can0 f u n a can out) (hc : ¬ (can < 0 ∨ u < can)) (hl : ¬ lastIn l f can a l.length < 0) :
    ∃ m j : Nat, n = m + 1 ∧ lastIn l f can a l.length = (j : Int) ∧ j < l.length ∧ PlanI k l can0 f u m (j + 1) (canAt k (l.getD j 0)) (out ++ [(j : Int)]) := by
  obtain ⟨h1, h2, h3, h4, h5⟩ := h; obtain ⟨m, rfl⟩ : ∃ m, n = m + 1 := ⟨n - 1, by omega⟩; obtain ⟨b1, b2, b3⟩ := lastIn_bd l f can a l.length; have b4 := b3 (by omega); obtain ⟨j, hj⟩ : ∃ j : Nat, lastIn l f can a l.length = j := ⟨(lastIn l f can a l.length).toNat, by omega⟩; refine ⟨m, j, rfl, hj, by omega, ?_, by omega, by omega, by simp; omega, ?_⟩
  · rw [h1]
    show ((if can < 0 ∨ u < can then some [] else if lastIn l f can a l.length < 0 then none else (planGo k l f u m (canAt k (l.getD (lastIn l f can a l.length).toNat 0)) ((lastIn l f can a l.length).toNat + 1)).map (lastIn l f can a l.length :: ·)) : Option (List Int)).map _ = _
    rw [if_neg hc, if_neg hl, hj, Int.toNat_natCast]
    cases planGo k l f u m (canAt k (l.getD j 0)) (j + 1) with
    | none => rfl
    | some x => simp
  · intro x hx
    rcases List.mem_append.1 hx with hx | hx
    · exact h5 x hx
    · simp at hx; subst hx; omega
theorem new_in {k : Kd} (hK : KOk k) : spanIn (newSpan k) := (new_ok hK).in
end

section
open Go.RowKit


/-- no number is less than the one ahead of it -/
def ndec (l : List Int) : Bool := (List.range (l.length - 1)).all fun i => decide (l.getD i 0 ≤ l.getD (i + 1) 0)
/-- some number equals the one ahead of it -/
def dups (l : List Int) : Bool := (List.range (l.length - 1)).any fun i => decide (l.getD i 0 = l.getD (i + 1) 0)
theorem ndec_iff {l : List Int} : ndec l = true ↔ ∀ i (h : i + 1 < l.length), l[i] ≤ l[i + 1] := by
  unfold ndec; rw [List.all_eq_true]
  constructor
  · intro h i hi
    have := h i (List.mem_range.2 (by omega)); rw [getD_get (show i < l.length by omega), getD_get hi] at this
    simpa using this
  · intro h i hi
    have hi' := List.mem_range.1 hi; rw [getD_get (show i < l.length by omega), getD_get (show i + 1 < l.length by omega)]
    simpa using h i (by omega)
theorem dups_iff {l : List Int} : dups l = true ↔ ∃ i, ∃ h : i + 1 < l.length, l[i] = l[i + 1] := by
  unfold dups; rw [List.any_eq_true]
  constructor
  · rintro ⟨i, hi, h⟩
    have hi' := List.mem_range.1 hi; rw [getD_get (show i < l.length by omega), getD_get (show i + 1 < l.length by omega)] at h; exact ⟨i, by omega, by simpa using h⟩
  · rintro ⟨i, hi, h⟩
    refine ⟨i, List.mem_range.2 (by omega), ?_⟩; rw [getD_get (show i < l.length by omega), getD_get hi]
    simpa using h

set_option maxRecDepth 100000 in
set_option maxHeartbeats 1000000 in
theorem isnan_any (x : Int) (w : World) :
    Calls Try.prog 87 #[.int .i64 x] w (fun e w' => e = .returned (.bool false) ∧ w = w') := by
 refine enter_F Try.func87 rfl Try.ntmps87 (by simp) ?_
 intro s0 hs; have sl0 : s0 0 = .int .i64 x := hs 0 (by simp); clear hs; have HB := hid (OldB.refl [] w)
 repeat ((fail_if_success refine stp ?_); with_reducible go_step)
 refine region_F ?_; refine pl ?_; refine listF_abs (fun s1 z' => ?_); replace sl0 := gs 0 z' sl0; clear z'; refine listF_nil ?_
 repeat ((fail_if_success refine stp ?_); with_reducible go_step)
 refine region_F ?_
 iterate 4 refine pl ?_
 refine listF_abs (fun s2 z' => ?_); have sl2 := gu 2 z'; clear z' sl0; refine listF_nil ?_
 repeat ((fail_if_success refine stp ?_); with_reducible go_step)
 refine ret_F _ (res_t Try.results87 ((getD_F (by decide)).trans sl2)) ?_; exact ⟨rfl, rfl⟩

set_option maxRecDepth 100000 in
set_option maxHeartbeats 1000000 in
theorem less_any (x y : Int) (w : World) :
    Calls Try.prog 79 #[.int .i64 x, .int .i64 y] w (fun e w' => e = .returned (.bool (decide (x < y))) ∧ w = w') := by
 refine enter_F Try.func79 rfl Try.ntmps79 (by simp) ?_
 intro s0 hs; have sl0 : s0 0 = .int .i64 x := hs 0 (by simp); have sl1 : s0 1 = .int .i64 y := hs 1 (by simp); clear hs; have HB := hid (OldB.refl [] w)
 repeat ((fail_if_success refine stp ?_); with_reducible go_step)
 refine region_F ?_; refine pl ?_; refine listF_abs (fun s1 z' => ?_); replace sl0 := gs 0 z' sl0; replace sl1 := gs 1 z' sl1; clear z'; refine listF_nil ?_
 repeat ((fail_if_success refine stp ?_); with_reducible go_step)
 refine region_F ?_; refine pl ?_; refine listF_step rfl (fun K' hK => ?_); unfold opF; go_simp; refine (isnan_any x _).mono ?_; rintro e w' ⟨rfl, rfl⟩; refine ⟨_, rfl, hK _ _ ?_⟩; clear hK K'; refine pl ?_
 refine pn false ?_; refine pn false ?_; refine pn false ?_; refine pl ?_; refine pl ?_
 iterate 3 refine py ?_
 refine pl ?_; refine pl ?_; refine listF_abs (fun s3 z' => ?_); have sl4 := gu 4 z'; clear z' sl0 sl1; refine listF_nil ?_
 repeat ((fail_if_success refine stp ?_); with_reducible go_step)
 refine ret_F _ (res_t Try.results79 ((getD_F (by decide)).trans sl4)) ?_; exact ⟨rfl, rfl⟩

set_option maxRecDepth 100000 in
set_option maxHeartbeats 1000000 in
theorem issorted_any (al : Option Addr) (cl : Nat) (l : List Int) (w : World) (hRl : RdInts w al l) (hll : l.length ≤ 1000) :
    Calls Try.prog 61 #[.slice al l.length cl] w (fun e w' => e = .returned (.bool (ndec l)) ∧ Below w.heap.size w w') := by
 have HRl := hid hRl; clear hRl
 refine enter_F Try.func61 rfl Try.ntmps61 (by simp) ?_
 intro s0 hs; have sl0 : s0 0 = .slice al l.length cl := hs 0 (by simp); clear hs; have HB := hid (OldB.refl [] w)
 repeat ((fail_if_success refine stp ?_); with_reducible go_step)
 refine region_F ?_; refine pl ?_; refine listF_abs (fun s1 z' => ?_); replace sl0 := gs 0 z' sl0; clear z'; refine listF_nil ?_
 repeat ((fail_if_success refine stp ?_); with_reducible go_step)
 refine region_F ?_; refine pl ?_; refine pl ?_; have w0 : IntKind.i64.wrap ((l.length : Int) - 1) = (l.length : Int) - 1 := IntWalk.i64_in _ (by omega); refine pl ?_; refine pl ?_; refine listF_abs (fun s2 z' => ?_); replace sl0 := gs 0 z' sl0; have sl3 := gu 3 z'; clear z'; refine listF_nil ?_
 repeat ((fail_if_success refine stp ?_); with_reducible go_step)
 have hc0_0 := hid sl0; refine loop_F (n := 21) (fun kJ sJ wJ => ∃ (i : Nat), kJ = i + 1 ∧ sJ 3 = .int .i64 ((i : Int) - 1) ∧ sJ 0 = s2 0 ∧ OldB [] w wJ ∧ i ≤ l.length ∧ (Hid (∀ j (h : j + 1 < l.length), i ≤ j + 1 → l[j] ≤ l[j + 1]))) ⟨l.length, rfl, (by first | exact sl3 | (rw [sl3]; go_num) | (rw [sl3]; rfl)), rfl, OldB.refl _ _, Nat.le_refl _, hid (fun j h1 h2 => by omega)⟩ ?_; clear sl3; rintro kJ s3 w4 ⟨i, rfl, sl3, e0, hb5, hil, hnd⟩; replace sl0 := e0.trans sl0; clear e0; have hoJ := hb5; replace HB := hid (HB.out.more hb5 (by simp; try omega)); clear hb5; have HoJ := hid hoJ; clear hoJ; have HL6 := HoJ; clear HoJ
 repeat ((fail_if_success refine stp ?_); with_reducible go_step)
 refine region_F ?_; refine pl ?_; refine pl ?_; refine listF_abs (fun s7 z' => ?_); replace sl0 := gs 0 z' sl0; replace sl3 := gs 3 z' sl3; have sl8 := gu 8 z'; clear z'; refine listF_nil ?_
 repeat ((fail_if_success refine stp ?_); with_reducible go_step)
 refine cond_E sl8 (by decide) ?_ ?_ <;> (clear sl8; intro h8 sl8)
 ·skip
  obtain ⟨m, rfl⟩ : ∃ m, i = m + 2 := ⟨i - 2, by simp at h8; omega⟩
  have sl3' : s7 3 = .int .i64 ((m : Int) + 1) := by rw [sl3]; congr 1; omega
  clear sl3; have sl3 := sl3'; clear sl3'
  have hlt : m + 1 < l.length := by omega
  have hlt2 : m < l.length := by omega
  have hlt' : (m : Int) + 1 < l.length := by omega
  have hlt2' : (m : Int) < l.length := by omega
  have e1 : ((m : Int) + 1).toNat = m + 1 := by omega
  obtain ⟨b, off, rfl, hbs, c0⟩ := RdInts.ne (Rd.oldB HRl.out HB.out (by simp)) hlt; obtain ⟨b', off', hab, _, c1⟩ := RdInts.ne (Rd.oldB HRl.out HB.out (by simp)) hlt2
  cases hab
  have w1 : IntKind.i64.wrap ((m : Int) + 1 - 1) = (m : Int) := (IntWalk.i64_in _ (by omega)).trans (by omega); have w2 : IntKind.i64.wrap (m : Int) = (m : Int) := IntWalk.i64_in _ (by omega)
  repeat ((fail_if_success refine stp ?_); with_reducible go_step)
  refine regionQ_F (Below w4.heap.size w4) (by kernel_rfl) (by kernel_rfl) (Below.refl _ _).drew ?_
  iterate 9 refine lq ?_
  refine listQ_step (v := ?_) rfl ?_ ?_; rotate_left
  · focus (intro wq hwq; obtain ⟨hcq, hfq⟩ := bcell hwq; go_simp; have hQ := callQs (less_any l[m + 1] l[m] _) hwq; exact hQ)
  refine listQ_nil ?_; intro w8 hb9; replace HL6 := hid (HL6.out.below hb9); replace HB := hid (HB.out.below hb9); clear hb9
  repeat ((fail_if_success refine stp ?_); with_reducible go_step)
  refine wp_abs (fun s10 z' => ?_); replace sl0 := gs 0 z' sl0; replace sl3 := gs 3 z' sl3; have sl20 := gu 20 z'; clear z' sl8
  refine cond_E sl20 (by decide) ?_ ?_ <;> (clear sl20; intro h20 sl20)
  ·skip
   have Hnd := hid (show ndec l = false by cases hn : ndec l with | false => rfl | true => have h1 := ndec_iff.1 hn m hlt; simp at h20; omega)
   repeat ((fail_if_success refine stp ?_); with_reducible go_step)
   refine region_F ?_; refine pl ?_; refine listF_abs (fun s11 z' => ?_); have sl2 := gu 2 z'; clear z' sl0 sl3 sl20; refine listF_nil ?_
   repeat ((fail_if_success refine stp ?_); with_reducible go_step)
   refine ret_F _ (res_t Try.results61 ((getD_F (by decide)).trans sl2)) ?_; exact ⟨by rw [Hnd.out], HB.out.toBelow⟩
  ·skip
   have Hle := hid (show l[m] ≤ l[m + 1] by simpa using h20)
   repeat ((fail_if_success refine stp ?_); with_reducible go_step)
   refine region_F ?_
   iterate 3 refine pl ?_
   refine listF_abs (fun s12 z' => ?_); replace sl0 := gs 0 z' sl0; replace sl3 := gu 3 z'; clear z' sl20; refine listF_nil ?_
   repeat ((fail_if_success refine stp ?_); with_reducible go_step)
   refine ⟨_, _, rfl, ?_, m + 1, rfl, (by rw [sl3]; congr 1; (try simp); (try omega)), (sl0.trans hc0_0.out.symm), HL6.out, by omega, hid (fun j h1 h2 => by rcases Nat.lt_or_ge j (m + 1) with h | h <;> first | exact hnd.out j h1 (by omega) | (have e : j = m := (by omega); subst e; exact Hle.out))⟩
   omega
 ·skip
  have Hnd := hid (show ndec l = true from ndec_iff.2 fun j h => hnd.out j h (by simp at h8; omega))
  repeat ((fail_if_success refine stp ?_); with_reducible go_step)
  clear HL6; clear hc0_0; refine region_F ?_; refine pl ?_; refine listF_abs (fun s13 z' => ?_); have sl2 := gu 2 z'; clear z' sl0 sl3 sl8; refine listF_nil ?_
  repeat ((fail_if_success refine stp ?_); with_reducible go_step)
  refine ret_F _ (res_t Try.results61 ((getD_F (by decide)).trans sl2)) ?_; exact ⟨by rw [Hnd.out], HB.out.toBelow⟩

set_option maxRecDepth 100000 in
set_option maxHeartbeats 1000000 in
theorem cloneInt_none (c : Nat) (l : List Int) (w : World) (hl : l.length ≤ 1000) (hR : RdInts w none l) :
    Calls Try.prog 63 #[.slice none l.length c] w (fun e w' => ∃ v, e = .returned v ∧ Own int1 1 3 w.heap.size w' v l ∧ Below w.heap.size w w') := by
 obtain ⟨i0, hi0, hz0, hz1, hz2⟩ := info_parts info_int; have HR := hid hR; clear hR
 have hnil : ∀ w, (binOp .eql 47 (.slice none l.length c) (.slice none 0 0)).run Try.prog w = .ok (.bool true) w := fun w => Lib.run_eql_slice_nil w _ _ _ _ _ _ _ Try.underlying47
 refine enter_F Try.func63 rfl Try.ntmps63 (by simp) ?_
 intro s0 hs; have sl0 : s0 0 = .slice none l.length c := hs 0 (by simp); clear hs; have HB := hid (OldB.refl [] w)
 repeat ((fail_if_success refine stp ?_); with_reducible go_step)
 refine region_F ?_; refine pl ?_; refine listF_abs (fun s1 z' => ?_); replace sl0 := gs 0 z' sl0; clear z'; refine listF_nil ?_
 repeat ((fail_if_success refine stp ?_); with_reducible go_step)
 refine region_F ?_; refine pl ?_; refine pl ?_; refine listF_abs (fun s2 z' => ?_); replace sl0 := gs 0 z' sl0; have sl4 := gu 4 z'; clear z'; refine listF_nil ?_
 repeat ((fail_if_success refine stp ?_); with_reducible go_step)
 refine cond_t ?_
 repeat ((fail_if_success refine stp ?_); with_reducible go_step)
 refine region_F ?_; refine pl ?_; refine listF_abs (fun s3 z' => ?_); have sl2 := gu 2 z'; clear z' sl0 sl4; refine listF_nil ?_
 repeat ((fail_if_success refine stp ?_); with_reducible go_step)
 refine ret_F _ (res_t Try.results63 ((getD_F (by decide)).trans sl2)) ?_
 have hl0 : l = [] := by rcases HR.out with h | ⟨b, o, h, _⟩; exact h; cases h
 exact ⟨_, rfl, by rw [hl0]; exact Own.nil _ _ _ _ _, HB.out.toBelow⟩

set_option maxRecDepth 100000 in
set_option maxHeartbeats 1000000 in
theorem cloneInt_some (p : Addr) (c : Nat) (l : List Int) (w : World) (hl : l.length ≤ 1000) (hR : RdInts w (some p) l) :
    Calls Try.prog 63 #[.slice (some p) l.length c] w (fun e w' => ∃ v, e = .returned v ∧ Own int1 1 3 w.heap.size w' v l ∧ Below w.heap.size w w') := by
 obtain ⟨i0, hi0, hz0, hz1, hz2⟩ := info_parts info_int; have HR := hid hR; clear hR
 have hnil : ∀ w, (binOp .eql 47 (.slice (some p) l.length c) (.slice none 0 0)).run Try.prog w = .ok (.bool false) w := fun w => Lib.run_eql_slice_nil w _ _ _ _ _ _ _ Try.underlying47
 refine enter_F Try.func63 rfl Try.ntmps63 (by simp) ?_
 intro s0 hs; have sl0 : s0 0 = .slice (some p) l.length c := hs 0 (by simp); clear hs; have HB := hid (OldB.refl [] w)
 repeat ((fail_if_success refine stp ?_); with_reducible go_step)
 refine region_F ?_; refine pl ?_; refine listF_abs (fun s1 z' => ?_); replace sl0 := gs 0 z' sl0; clear z'; refine listF_nil ?_
 repeat ((fail_if_success refine stp ?_); with_reducible go_step)
 refine region_F ?_; refine pl ?_; refine pl ?_; refine listF_abs (fun s2 z' => ?_); replace sl0 := gs 0 z' sl0; have sl4 := gu 4 z'; clear z'; refine listF_nil ?_
 repeat ((fail_if_success refine stp ?_); with_reducible go_step)
 refine cond_f ?_
 repeat ((fail_if_success refine stp ?_); with_reducible go_step)
 refine region_F ?_; refine listF_step rfl (fun K' hK => ?_); unfold opF; go_simp; refine hK _ _ ?_; clear hK K'; refine listF_absw ?_; intro w3 hw'
 have hO5 : Own int1 1 3 w.heap.size w3 (.slice (some ⟨w.heap.size, 0, none⟩) 0 0) [] := by rw [hw']; exact Own.lit (l := ([] : List Int)) (Nat.le_refl _) (by unfold maxLen; simp) rfl (fun _ => rfl)
 have hb4 : Below w.heap.size w w3 := by rw [hw']; exact below_alloc1 _ _
 clear hw'; replace HB := hid (HB.out.below hb4); clear hb4; refine pl ?_; refine listF_step rfl (fun K' hK => ?_); have hzz := HB.out.size; refine opF_app (d := 7) rfl (by decide) (.tmp 5) (.tmp 6) _ rfl 3 i0 _ 8 Try.underlying47 hi0 hz0 hz1 hz2 rfl (by decide) (fun _ => rfl) int_one w.heap.size _ [] l (some p) c (by go_simp) (by go_simp) hO5 (Rd.oldB HR.out HB.out (by simp)) (by unfold maxLen; simp; omega) (by simp; omega) (by omega) (fun v7 w5 hO7 hG7 hV7 => hK _ _ ?_); clear hK K'; replace HB := hid (HB.out.grown hG7 (fun k hk => .inl (by simp [Value.ownBlock] at hk; omega))); have HO7 := hid hO7; clear hO5 hG7 hV7 hzz hO7; refine pl ?_; refine listF_abs (fun s7 z' => ?_); have sl2 := gu 2 z'; clear z' sl0 sl4; refine listF_nil ?_
 repeat ((fail_if_success refine stp ?_); with_reducible go_step)
 refine ret_F _ (res_t Try.results63 ((getD_F (by decide)).trans sl2)) ?_; exact ⟨_, rfl, HO7.out, HB.out.toBelow⟩

theorem cloneInt_any (a : Option Addr) (c : Nat) (l : List Int) (w : World) (hl : l.length ≤ 1000) (hR : RdInts w a l) :
    Calls Try.prog 63 #[.slice a l.length c] w fun e w' => ∃ v, e = .returned v ∧ Own int1 1 3 w.heap.size w' v l ∧ Below w.heap.size w w' := by
  cases a with
  | none => exact cloneInt_none c l w hl hR
  | some p => exact cloneInt_some p c l w hl hR
end

section
open Go.RowKit


structure Vl where
  k : Kd
  a : Option Addr
  c : Nat
  ca : Option Addr
  cc : Nat
  cs : List MCk
abbrev Vl.vs (x : Vl) : List Value := [.int .i64 x.k.new, .int .i64 x.k.wear.lo, .int .i64 x.k.wear.hi, .slice x.a x.k.steps.length x.c, .slice x.ca x.cs.length x.cc]
abbrev RdVls := Rd Vl.vs 5
def VlIn (x : Vl) : Prop := (-9223372036854775808 ≤ x.k.new ∧ x.k.new ≤ 9223372036854775807) ∧ x.k.steps.length ≤ 9223372036854775807 ∧ x.cs.length ≤ 9223372036854775807
structure RdRack (w : World) (ar : Option Addr) (rack : List Vl) : Prop where
  rd : RdVls w ar rack
  st : ∀ x ∈ rack, RdSteps w x.a x.k.steps
  ck : ∀ x ∈ rack, RdCks w x.ca x.cs
  inn : ∀ x ∈ rack, VlIn x
theorem RdRack.at {w w' : World} {ar : Option Addr} {rack : List Vl} (h : RdRack w ar rack) (hb : Below w.heap.size w w') : RdRack w' ar rack :=
  ⟨Rd.at h.rd hb, fun x hx => Rd.at (h.st x hx) hb, fun x hx => Rd.at (h.ck x hx) hb, h.inn⟩
theorem RdVls.ne {w : World} {a : Option Addr} {l : List Vl} (h : RdVls w a l) {k : Nat} (hk : k < l.length) :
    ∃ b off, a = some ⟨b, off, none⟩ ∧ b < w.heap.size ∧ w.cell? ⟨b, off + k * 5, none⟩ = some (.int .i64 l[k].k.new) ∧ w.cell? ⟨b, off + k * 5 + 1, none⟩ = some (.int .i64 l[k].k.wear.lo) ∧ w.cell? ⟨b, off + k * 5 + 2, none⟩ = some (.int .i64 l[k].k.wear.hi) ∧
      w.cell? ⟨b, off + k * 5 + 3, none⟩ = some (.slice l[k].a l[k].k.steps.length l[k].c) ∧ w.cell? ⟨b, off + k * 5 + 4, none⟩ = some (.slice l[k].ca l[k].cs.length l[k].cc) := by
  obtain ⟨b, off, ha, hb, hc⟩ := Rd.ne h hk; exact ⟨b, off, ha, hb, by simpa using hc 0 _ rfl, hc 1 _ rfl, hc 2 _ rfl, hc 3 _ rfl, hc 4 _ rfl⟩
/-- the spans at the hour -/
def vSp (f : Int) (x : Vl) : Span := (asked x.k x.cs f).1
def vCan (f : Int) (x : Vl) : Int := (failsOf x.k (vSp f x) f).earliest
def addPlan (o : List (List Int)) (i : Nat) (l : List Int) : List (List Int) := l.foldl (fun o n => o.set n.toNat (o.getD n.toNat [] ++ [(i : Int)])) o
def repGo (l : List Int) (f u : Int) : List Vl → Nat → List (List Int) → Option (List (List Int))
  | [], _, o => some o
  | x :: t, i, o => match planR x.k l (vCan f x) f u with
    | none => none
    | some p => repGo l f u t (i + 1) (addPlan o i p)
def askErr (f : Int) (x : Vl) : Int := (asked x.k x.cs f).2
def rackErr (f : Int) (rack : List Vl) : Int := ((rack.find? fun x => askErr f x != 0).map (askErr f)).getD 0
def repErr (rack : List Vl) (l : List Int) (f u : Int) : Int :=
  if 12 < rack.length ∨ 20 < l.length then 3
  else if l.any (fun n => !inb n 0 100000) = true ∨ inb f 0 100000 = false ∨ inb u 0 100000 = false then 7
  else if ndec l = false ∨ dups l = true ∨ u < f then 2
  else rackErr f rack
def repOut (rack : List Vl) (l : List Int) (f u : Int) : Option (List (List Int)) := repGo l f u rack 0 (List.replicate l.length [])
def repRes (rack : List Vl) (l : List Int) (f u : Int) : List (List Int) × Int :=
  if repErr rack l f u ≠ 0 then ([], repErr rack l f u) else match repOut rack l f u with
    | none => ([], 9)
    | some o => (o, 0)
theorem addPlan_snoc (o : List (List Int)) (i : Nat) (l : List Int) (n : Int) : addPlan o i (l ++ [n]) = (addPlan o i l).set n.toNat ((addPlan o i l).getD n.toNat [] ++ [(i : Int)]) := by
  unfold addPlan; rw [List.foldl_append]; rfl
theorem rackErr_none {f : Int} {rack : List Vl} (h : ∀ x ∈ rack, askErr f x = 0) : rackErr f rack = 0 := by
  unfold rackErr; rw [List.find?_eq_none.2 (fun x hx => by simp [h x hx])]; rfl
theorem rackErr_some {f : Int} {rack : List Vl} {i : Nat} (hi : i < rack.length) (h : ∀ j (hj : j < rack.length), j < i → askErr f rack[j] = 0) (he : askErr f rack[i] ≠ 0) : rackErr f rack = askErr f rack[i] := by
  unfold rackErr
  have : rack.find? (fun x => askErr f x != 0) = some rack[i] := by
    rw [List.find?_eq_some_iff_getElem]; exact ⟨by simpa using he, i, hi, rfl, fun j hj => by simpa using h j (by omega) hj⟩
  rw [this]; rfl
theorem repGo_step {l : List Int} {f u : Int} {rack : List Vl} {i : Nat} (hi : i < rack.length) {o : List (List Int)} {p : List Int} (hp : planR rack[i].k l (vCan f rack[i]) f u = some p) : repGo l f u (rack.drop i) i o = repGo l f u (rack.drop (i + 1)) (i + 1) (addPlan o i p) := by
  rw [List.drop_eq_getElem_cons hi]
  show (match planR rack[i].k l (vCan f rack[i]) f u with | none => none | some p => _) = _
  rw [hp]
theorem repGo_down {l : List Int} {f u : Int} {rack : List Vl} {i : Nat} (hi : i < rack.length) {o : List (List Int)} (hp : planR rack[i].k l (vCan f rack[i]) f u = none) : repGo l f u (rack.drop i) i o = none := by
  rw [List.drop_eq_getElem_cons hi]
  show (match planR rack[i].k l (vCan f rack[i]) f u with | none => none | some p => _) = _
  rw [hp]
def RepRes (rack : List Vl) (l : List Int) (f u : Int) (w : World) (e : Ending) (w' : World) : Prop :=
  ∃ a xs c, e = .returned (.tuple #[.slice a xs.length c, .int .i64 (repRes rack l f u).2]) ∧ RdPlan w' a xs ∧ xs.map Sl.l = (repRes rack l f u).1 ∧ Below w.heap.size w w' ∧ (∀ b, a = some b → w.heap.size ≤ b.block)
theorem rep_no {rack : List Vl} {l : List Int} {f u : Int} {w w' : World} {n : Int} (h : repRes rack l f u = ([], n)) (hb : Below w.heap.size w w') : RepRes rack l f u w (.returned (.tuple #[.slice none 0 0, .int .i64 n])) w' :=
  ⟨none, [], 0, by rw [h]; rfl, ⟨.inl rfl, by simp⟩, by rw [h]; rfl, hb, (fun b hb => by cases hb)⟩

/- a plan in memory: the rows that the call itself has made, each apart from the others -/
def Sl.v (x : Sl) : Value := .slice x.a x.l.length x.c
def Sl.zero : Sl := ⟨none, 0, []⟩
structure PlanO (base : Nat) (av : List Nat) (w : World) (xs : List Sl) : Prop where
  own : ∀ i (h : i < xs.length), Own int1 1 3 base w xs[i].v xs[i].l
  av : ∀ i (h : i < xs.length) g, xs[i].v.ownBlock = some g → g ∉ av
  ap : ∀ i j (hi : i < xs.length) (hj : j < xs.length), i ≠ j → Apart xs[i].v xs[j].v
theorem PlanO.kept {base : Nat} {av : List Nat} {w w' : World} {xs : List Sl} (h : PlanO base av w xs) (hk : ∀ i (hi : i < xs.length) g, xs[i].v.ownBlock = some g → w'.heap[g]? = w.heap[g]?) : PlanO base av w' xs :=
  ⟨fun i hi => (h.own i hi).kept (hk i hi), h.av, h.ap⟩
theorem PlanO.below {base : Nat} {av : List Nat} {w w' : World} {xs : List Sl} (h : PlanO base av w xs) (hb : Below w.heap.size w w') : PlanO base av w' xs :=
  h.kept fun i hi g hg => hb.block g (World.ownsRow.lt (h.own i hi) g hg).2
theorem PlanO.oldB {base : Nat} {av : List Nat} {w w' : World} {xs : List Sl} {Bs : List Nat} (h : PlanO base av w xs) (ho : OldB Bs w w') (hn : ∀ b ∈ Bs, b < base) : PlanO base av w' xs :=
  h.kept fun i hi g hg => ho.block g (World.ownsRow.lt (h.own i hi) g hg).2 (fun hm => by have := (World.ownsRow.lt (h.own i hi) g hg).1; have := hn g hm; omega)
theorem PlanO.put {base : Nat} {av : List Nat} {w : World} {xs : List Sl} {X : Nat} {o : Obj} (h : PlanO base av w xs) (hX : X ∈ av) : PlanO base av (w.putObj X o) xs :=
  h.kept fun i hi g hg => World.putObj_heap_other (fun e => h.av i hi g hg (e ▸ hX))
theorem PlanO.start (base n : Nat) (w : World) : PlanO base [] w (List.replicate n Sl.zero) :=
  ⟨fun i hi => by rw [List.getElem_replicate]; exact Own.nil _ _ _ _ _, fun _ _ _ _ => by simp, fun i j hi hj _ g hg => by rw [List.getElem_replicate] at hg; simp [Sl.zero, Sl.v, Value.ownBlock] at hg⟩
/-- all but row j -/
def OwnX (base j : Nat) (xs : List Sl) (w : World) : Prop := ∀ i (h : i < xs.length), i ≠ j → Own int1 1 3 base w xs[i].v xs[i].l
theorem OwnX.alloc {base j : Nat} {xs : List Sl} {w : World} (h : OwnX base j xs w) (o : Obj) : OwnX base j xs (w.alloc o) := fun i hi hn => (h i hi hn).alloc o
theorem OwnX.grown {base j : Nat} {xs : List Sl} {w w' : World} (h : OwnX base j xs w) {hj : j < xs.length} (ap : ∀ i j (hi : i < xs.length) (hj : j < xs.length), i ≠ j → Apart xs[i].v xs[j].v) (hg : w.grownBy w' xs[j].v.ownBlock) : OwnX base j xs w' := fun i hi hn => Own.grown (h i hi hn) hg (ap i j hi hj hn)
theorem OwnX.setLow {base j Y q : Nat} {xs : List Sl} {w : World} (h : OwnX base j xs w) (hY : Y < base) (u : Value) : OwnX base j xs (w.setCell ⟨Y, q, none⟩ u) := fun i hi hn => (h i hi hn).setFar' hY u
theorem PlanO.step {base : Nat} {av : List Nat} {w w' : World} {xs : List Sl} (h : PlanO base av w xs) {j : Nat} (hj : j < xs.length) (hx : OwnX base j xs w') {x' : Sl} (hO : Own int1 1 3 base w' x'.v x'.l) (hV : ∀ g, x'.v.ownBlock = some g → xs[j].v.ownBlock = some g ∨ w.heap.size ≤ g) (hav : ∀ b ∈ av, b < w.heap.size) : PlanO base av w' (xs.set j x') := by
  have hne : ∀ i (hi : i < xs.length), i ≠ j → Apart xs[i].v x'.v := fun i hi hn g hg he => by
    rcases hV g he with e | e
    · exact h.ap i j hi hj hn g hg e
    · have := (World.ownsRow.lt (h.own i hi) g hg).2; omega
  refine ⟨fun i hi => ?_, fun i hi g hg hm => ?_, fun i m hi hm hn => ?_⟩
  · rw [List.length_set] at hi
    by_cases e : j = i
    · subst e; simp only [List.getElem_set_self]; exact hO
    · simp only [List.getElem_set_ne e]; exact hx i hi (fun e' => e e'.symm)
  · rw [List.length_set] at hi
    by_cases e : j = i
    · subst e
      simp only [List.getElem_set_self] at hg
      rcases hV g hg with e | e
      · exact h.av j hi g e hm
      · have := hav g hm; omega
    · simp only [List.getElem_set_ne e] at hg; exact h.av i hi g hg hm
  · rw [List.length_set] at hi hm
    by_cases e : j = i
    · subst e
      have e2 : j ≠ m := hn
      simp only [List.getElem_set_self, List.getElem_set_ne e2]
      exact (hne m hm (fun e' => e2 e'.symm)).symm
    · by_cases e2 : j = m
      · subst e2; simp only [List.getElem_set_self, List.getElem_set_ne e]; exact hne i hi (fun e' => e e'.symm)
      · simp only [List.getElem_set_ne e, List.getElem_set_ne e2]; exact h.ap i m hi hm hn
theorem sls_cell {w : World} {g : Nat} {l : List Sl} (h : Cells w g (l.flatMap Sl.cs)) {i : Nat} (hi : i < l.length) : w.cell? ⟨g, i, none⟩ = some l[i].v := by
  have := h.2.1 (i * 1 + 0) _ (flat_get Sl.cs 1 (fun _ => rfl) l i l[i] (List.getElem?_eq_getElem hi) 0 _ rfl)
  simpa [Sl.v] using this
theorem sls_set (x : Sl) : ∀ (l : List Sl) (i : Nat), (l.flatMap Sl.cs).set i x.v = (l.set i x).flatMap Sl.cs
  | [], i => by simp
  | y :: l, 0 => by simp [Sl.v]
  | y :: l, i + 1 => by
    have ih := sls_set x l i
    simp only [List.set_cons_succ, List.flatMap_cons, Sl.cs, List.cons_append, List.nil_append] at *
    rw [ih]
theorem made_sls (n : Nat) : (madeCells (Value.slice none 0 0).cells (n * 1)).toList = (List.replicate n Sl.zero).flatMap Sl.cs := by
  have h1 : (List.replicate n Sl.zero).flatMap Sl.cs = List.replicate n (Value.slice none 0 0) := by
    induction n with
    | zero => rfl
    | succ n ih => rw [List.replicate_succ, List.flatMap_cons, ih, List.replicate_succ]; rfl
  rw [h1]
  apply List.ext_getElem
  · simp [madeCells]
  · intro i h1 h2
    simp [madeCells, Value.cells, Nat.mod_one]
theorem Own.toSl {base : Nat} {w : World} {v : Value} {l : List Int} (h : Own int1 1 3 base w v l) : ∃ x : Sl, v = x.v ∧ x.l = l := by
  obtain ⟨a, c, hv, _, _⟩ := Own.slice (f := int1) (m := 1) (fun _ => rfl) h; exact ⟨⟨a, c, l⟩, hv, rfl⟩
theorem PlanO.plan {base : Nat} {av : List Nat} {w : World} {xs : List Sl} {b : Nat} (h : PlanO base av w xs) (hb : Cells w b (xs.flatMap Sl.cs)) : RdPlan w (some ⟨b, 0, none⟩) xs := by
  refine ⟨Cells.rd (f := Sl.cs) (m := 1) (fun _ => rfl) hb, fun x hx => ?_⟩; obtain ⟨i, hi, rfl⟩ := List.mem_iff_getElem.1 hx; exact Own.rd' (f := int1) (m := 1) (fun _ => rfl) (h.own i hi) rfl
abbrev ptr1 (V : Nat) : List Value := [.pointer (some ⟨V, 0, none⟩)]
end

section
open Go.RowKit

theorem panic_in {P : Program} {n m : Nat} {o : Oper} {os : List Oper} {ops : Array Oper} {s : Nat → Value} {w w' : World} {Q : Exit → Act → World → Prop} {ds : List Deferred} {v : Value}
    (hr : (execOp (evF n s) o).run P w = .halt (.panic v) w') (h : Q (.panic [{ v, recovered := false }]) (mkA n s ds) w') (hg : o.guard = none := by rfl) (hd : ∀ c, o.op ≠ .defer c := by intro c h; cases h) : wpListIn (Fw none) m P ops Q (o :: os) (mkA n s ds) w := by
  unfold wpListIn
  rw [if_pos (by simp [Region.wanted, hg])]
  refine ⟨fun _ _ => trivial, ?_⟩
  show o.uponIn (Fw none) m P (mkA n s ds) _ Q ((o.semAt none (mkA n s ds).eval).run P w)
  rw [semAt_any hd, mkA_eval, hr]
  exact h
theorem defer_in {P : Program} {n m : Nat} {o : Oper} {os : List Oper} {ops : Array Oper} {s : Nat → Value} {w w' : World} {Q : Exit → Act → World → Prop} {ds : List Deferred} {d : Deferred}
    (hr : (o.semAt none (evF n s)).run P w = .ok (.defer d) w') (h : wpListIn (Fw none) m P ops Q os (mkA n s (d :: ds)) w') (hg : o.guard = none := by rfl) (hdst : o.dst = none := by rfl) : wpListIn (Fw none) m P ops Q (o :: os) (mkA n s ds) w := by
  unfold wpListIn
  rw [if_pos (by simp [Region.wanted, hg])]
  refine ⟨fun _ _ => trivial, ?_⟩
  show o.uponIn (Fw none) m P (mkA n s ds) _ Q ((o.semAt none (mkA n s ds).eval).run P w)
  rw [mkA_eval, hr, Oper.uponIn_defer, hdst]
  exact h

/-- a range over a function of ours that returns, or panics -/
theorem wp_range_p {P : Program} {α : Type} {g : Operand} {ps : Array Tmp} {assign body : Code} {Q : Exit → Act → World → Prop} {a : Act} {w : World} {gf : Nat} {lb : Array Value} (enc : α → Value)
    (hg : a.eval g = .func (.func gf) #[] lb) (eg : ∀ args w, (callFunc gf args).run P w = .ok (.enter gf args) w) (hps : ps.size = 1)
    (J : List α → World → Prop) (M : List α → α → World → Prop) (Fin : List α → Prop) (Dn : List PanicEntry → World → Prop)
    (hJ : ∀ pre W r r', J pre W → LoopAt W w.heap.size r → J pre (W.putObj (w.heap.size + 1) (.loop r')))
    (h0 : ∀ r, J [] ((w.alloc (.deferred (some []))).alloc (.loop r)))
    (hiter : ∀ (r : Loop) (W : World), J [] W → LoopAt W w.heap.size r →
      (∀ pre x W1, M pre x W1 → LoopAt W1 w.heap.size r → YieldAt Fence.wide 0 P (w.heap.size + 1) #[enc x] W1 fun e W' => e = .returned (.bool true) ∧ J (pre ++ [x]) W' ∧ LoopAt W' w.heap.size r) →
      Calls P gf (#[.func (.yield (w.heap.size + 1)) #[] #[]] ++ lb) W fun e W' => ((∃ v, e = .returned v) ∧ ∃ xs, J xs W' ∧ Fin xs ∧ LoopAt W' w.heap.size r) ∨ (∃ ch, e = .panicked ch ∧ Dn ch W' ∧ LoopAt W' w.heap.size r))
    (hround : ∀ pre x W r, M pre x W → LoopAt W w.heap.size r →
      assign.wpIn (Fence.wide.inRound (w.heap.size + 1)) 0 P (Exit.then (fun a₁ W₁ => LoopAt W₁ w.heap.size r ∧ ∀ r', body.wpIn (Fence.wide.inRound (w.heap.size + 1)) 0 P (fun e _ W' => e = .normal ∧ J (pre ++ [x]) W' ∧ LoopAt W' w.heap.size r') a₁ (W₁.putObj (w.heap.size + 1) (.loop r'))) (fun _ _ _ => False))
        { tmps := (ps.zip #[enc x]).foldl (fun t (p, v) => t.setIfInBounds p v) a.tmps, defers := [] } W)
    (hdone : ∀ xs W, J xs W → Fin xs → W.heap[w.heap.size]? = some (.deferred (some [])) → Q .normal { a with defers := { target := .collected w.heap.size, args := #[] } :: a.defers } W)
    (hdie : ∀ ch W, Dn ch W → W.heap[w.heap.size]? = some (.deferred (some [])) → Q (.panic ch) { a with defers := { target := .collected w.heap.size, args := #[] } :: a.defers } W) :
    (Code.rangeFunc g ps assign body).wp P Q a w := by
  refine (wpIn_wide (n := 0)).1 (wpIn_rangeFunc ?_)
  intro fn hfn
  let rec0 : Loop := { state := .ready, pending := none, fn := fn, tmps := a.tmps, params := ps, assign := assign, body := body, defers := w.heap.size }
  let W1 : World := (w.alloc (.deferred (some []))).alloc (.loop rec0)
  have hL1 : LoopAt W1 w.heap.size rec0 := by
    refine ⟨?_, ?_⟩
    · have := World.alloc_heap_new (w.alloc (.deferred (some []))) (.loop rec0)
      rwa [World.size_alloc] at this
    · exact (Below.heap_alloc _ _ _ (by simp)).trans (World.alloc_heap_new w _)
  refine ⟨w.heap.size + 1, [{ target := .collected w.heap.size, args := #[] }], W1, { target := .fn (.func gf) lb, args := #[.func (.yield (w.heap.size + 1)) #[] #[]] }, W1, gf,
    #[.func (.yield (w.heap.size + 1)) #[] #[]] ++ lb, W1, run_enterLoop_outer _ _ _ _ _, ?_, fun _ _ => trivial, ?_, fun h => (by simp [Fence.wide] at h), ?_⟩
  · simp only [resolve, hg]
    simp [go_sem]
  · simp [invoke, go_sem, eg]
  · refine callsIn_wide.2 ((hiter rec0 W1 (h0 rec0) hL1 ?_).mono ?_)
    · intro pre x W hm hl
      refine ⟨fn, _, assign, body, run_yield (P := P) (args := #[enc x]) hl.1 (by show _ = ps.size; rw [hps]; rfl), roundIn_of_wpIn trivial ?_⟩
      refine wpIn_mono (hround pre x W rec0 hm hl) ?_
      intro e a1 W2 h
      cases e with
      | normal =>
        obtain ⟨hl2, hb⟩ := h
        refine ⟨_, run_beginRound hl2.1 rfl, wpIn_mono (hb _) ?_⟩
        rintro e a3 W3 ⟨rfl, hj3, hl3⟩
        exact ⟨_, _, run_endRound none hl3.1, rfl, hJ _ _ _ _ hj3 hl3, hl3.put⟩
      | exit id => exact h
      | goto t => exact h
      | ret => exact h
      | panic ch => exact h
      | outgrown => exact h
    · rintro e W2 (⟨⟨v, rfl⟩, xs, hj, hf, hl⟩ | ⟨ch, rfl, hd, hl⟩)
      · exact ⟨none, _, run_endLoop (P := P) hl.1 (by show LoopState.ready ≠ LoopState.busy; decide), hdone xs _ (hJ _ _ _ _ hj hl) hf ((World.putObj_heap_other (by omega)).trans hl.2)⟩
      · exact hdie ch W2 hd hl.2

/- inside a round: a region that draws its order -/
section
variable {P : Program} {n m : Nat} {ρ : Option Nat} {ops : Array Oper} {Q : Exit → Act → World → Prop}
theorem opwp_in {o : Oper} {a : Act} {w : World} {K : Act → World → Prop} (hd : ∀ c, o.op ≠ .defer c) (h : o.wp P a w K Q) : o.wpIn (Fw ρ) m P a w K Q := by
  refine ⟨fun _ _ => trivial, ?_⟩
  show o.uponIn (Fw ρ) m P a K Q ((o.semAt ρ a.eval).run P w)
  rw [semAt_any hd]
  unfold Oper.wp at h
  generalize (execOp a.eval o).run P w = r at *
  cases r with
  | ok nx w' =>
    cases nx with
    | value v => simp only [Oper.upon] at h; rw [Oper.uponIn_value]; exact h
    | skip => simp only [Oper.upon] at h; rw [Oper.uponIn_skip]; exact h
    | enter f args =>
      simp only [Oper.upon] at h
      rw [Oper.uponIn_enter]
      exact ⟨fun h => (by simp [Fw, Fence.wide] at h), callsIn_Fw h⟩
    | row r args =>
      simp only [Oper.upon] at h
      refine ⟨fun h => (by simp [Fw, Fence.wide] at h), ?_⟩
      intro c cs _
      obtain ⟨v, w'', hk, hs⟩ := h c cs
      exact ⟨v, w'', hk, stepsIn_wide.2 hs⟩
    | defer d => simp only [Oper.upon] at h; rw [Oper.uponIn_defer]; exact h
    | _ => exact (h : False).elim
  | halt x w' =>
    cases x with
    | panic v => exact h
    | _ => exact (h : False).elim
theorem any_in (hd : ∀ (i : Nat) (o : Oper), ops[i]? = some o → ∀ c, o.op ≠ .defer c) (hQ : ¬ LetsOut Q) : ∀ (fuel : Nat) (listed : Array Bool) (a : Act) (w : World), wpAny P .any ops Q fuel listed a w → wpAnyIn (Fw ρ) m P .any ops Q fuel listed a w
  | 0, _, _, _, h => h
  | fuel + 1, listed, a, w, h => by
    refine ⟨h.1, fun i hi => ?_⟩
    have h1 := h.2 i hi
    unfold wpOp at h1
    unfold wpOpIn
    cases ho : ops[i]? with
    | none => rw [ho] at h1; exact any_in hd hQ fuel _ a w h1
    | some o =>
      rw [ho] at h1
      simp only at h1 ⊢
      split
      · rename_i hw
        rw [if_pos hw] at h1
        rcases h1 with h1 | ⟨_, h2⟩
        · exact opwp_in (hd i o ho) (Oper.wp_mono (fun a' w' h' => any_in hd hQ fuel _ a' w' h') h1)
        · exact absurd h2 hQ
      · rename_i hw
        rw [if_neg hw] at h1
        exact ⟨fun _ _ => trivial, any_in hd hQ fuel _ _ w h1⟩
end
section
variable {ds : List Deferred}
theorem regionI_any {P : Program} {l : List Oper} {n : Nat} {Q : Exit → Act → World → Prop} {s : Nat → Value} {w : World} (J : (Nat → Bool) → (Nat → Value) → World → Prop)
    (hm : P.follows .mixedOrders = true) (hb : backB l.toArray = true) (hd : dstB l.toArray (List.range n) = true)
    (h0 : J (fun _ => false) (fun d => if d < n then s d else undef) w.drew)
    (he : ∀ s w, J (fun j => decide (j < l.length)) s w → Q .normal (mkA n s ds) w)
    (hs : invF P l.toArray n J 0 l) : wpAny P .any l.toArray Q l.toArray.size (Array.replicate l.toArray.size false) (mkA n s ds) w.drew := by
  have hset : ∀ s', setAll (mkA n s ds) (List.range n) s' = mkA n s' ds := by
    intro s'
    apply Act.ext'
    · apply Array.ext_getElem?
      intro k
      (try simp only [mkA_tmps])
      rw [setAll_get]; show (if k ∈ List.range n ∧ k < (tmA n s).size then some (s' k) else (tmA n s)[k]?) = (tmA n s')[k]?; rw [mkA_get, mkA_get]
      have hsz : (tmA n s).size = n := by simp [tmA]
      rw [hsz]
      by_cases hk : k < n
      · simp [hk]
      · simp [hk]
    · rw [setAll_defers]; rfl
  have hs' := invF_steps (s0 := s) (ds := ds) (Q := Q) (P := P) l 0 ?_ hs
  · have e0 : (fun d => (tmA n s).getD d undef) = fun d => if d < n then s d else undef := by
      funext d
      rw [Array.getD_eq_getD_getElem?, mkA_get]; split <;> rfl
    have := inv_any (P := P) (ops := l.toArray) (Q := Q) (a0 := mkA n s ds) (ds := List.range n) (J := J) hb hd (by simpa using hs') (by
      intro s' w' hj; rw [hset]; exact he s' w' (by simpa using hj)) l.toArray.size (Array.replicate l.toArray.size false) (fun d => (tmA n s).getD d undef) w.drew (by simp)
      (by
        have : (fun j => (Array.replicate l.toArray.size false).getD j false) = fun _ => false := by
          funext j
          simp only [Array.getD_eq_getD_getElem?, Array.getElem?_replicate]
          split <;> rfl
        rw [this, e0]; exact h0)
      (.inr (Nat.le_trans List.countP_le_length (by simp)))
    have hself : setAll (mkA n s ds) (List.range n) (fun d => (tmA n s).getD d undef) = mkA n s ds := setAll_self (mkA n s ds) (List.range n)
    rw [hself] at this
    exact this
  · intro o ho d hdst
    unfold dstB at hd
    rw [Array.all_eq_true] at hd
    obtain ⟨i, hi, rfl⟩ := List.mem_iff_getElem.1 ho
    have := hd i (by simpa using hi)
    simp only [List.getElem_toArray, hdst] at this
    simpa using this

theorem regionI_FI {P : Program} {id m : Nat} {ρ : Option Nat} {l : List Oper} {n : Nat} {Q : Exit → Act → World → Prop} {s : Nat → Value} {w : World} (J : (Nat → Bool) → (Nat → Value) → World → Prop) (hq : ¬ LetsOut Q) (hnd : noDefer l = true)
    (hm : P.follows .mixedOrders = true) (hb : backB l.toArray = true) (hd : dstB l.toArray (List.range n) = true)
    (h0 : J (fun _ => false) (fun d => if d < n then s d else undef) w.drew)
    (he : ∀ s w, J (fun j => decide (j < l.length)) s w → Q .normal (mkA n s ds) w)
    (hs : invF P l.toArray n J 0 l) : (Code.region id l.toArray true).wpIn (Fw ρ) m P Q (mkA n s ds) w := by
  refine wpIn_region_any hm (any_in ?_ hq _ _ _ _ (regionI_any J hm hb hd h0 he hs))
  intro i o ho c hc
  unfold noDefer at hnd
  rw [List.all_eq_true] at hnd
  have hmem : o ∈ l := by
    rw [List.getElem?_toArray] at ho
    exact List.mem_of_getElem? ho
  have := hnd o hmem
  rw [hc] at this
  exact absurd this (by simp)
end

/-- a loop whose rounds may add to the deferred calls -/
theorem loop_D {P : Program} {c : Code} {n : Nat} {Q : Exit → Act → World → Prop} (J : Nat → (Nat → Value) → List Deferred → World → Prop) {k0 : Nat} {s0 : Nat → Value} {d0 : List Deferred} {w0 : World} (h0 : J k0 s0 d0 w0)
    (round : ∀ k s d w, J k s d w → c.wp P (Exit.then (fun a' w' => ∃ k' s' d', a' = mkA n s' d' ∧ k' < k ∧ J k' s' d' w') Q) (mkA n s d) w) : (Code.loop c).wp P Q (mkA n s0 d0) w0 := by
  classical
  let p : Act → World → Nat → Prop := fun a w k => ∃ s d, a = mkA n s d ∧ J k s d w
  let μ : Act → World → Nat := fun a w => if h : ∃ k, p a w k then Classical.choose (least_ex h) else 0
  refine wp_loop (fun a w => ∃ k, p a w k) μ ⟨k0, s0, d0, rfl, h0⟩ ?_
  intro a w hI
  have hμ : μ a w = Classical.choose (least_ex hI) := by show (if h : _ then _ else _) = _; rw [dif_pos hI]
  obtain ⟨⟨s, d, rfl, hJ⟩, hmin⟩ := Classical.choose_spec (least_ex hI)
  refine wp_mono (round _ s d w hJ) ?_
  intro e a' w' h
  cases e with
  | normal =>
    obtain ⟨k', s', d', rfl, hlt, hJ'⟩ := h
    have hI' : ∃ k, p (mkA n s' d') w' k := ⟨k', s', d', rfl, hJ'⟩
    refine ⟨hI', ?_⟩
    have hμ' : μ (mkA n s' d') w' = Classical.choose (least_ex hI') := by show (if h : _ then _ else _) = _; rw [dif_pos hI']
    rw [hμ, hμ']
    exact Nat.lt_of_le_of_lt ((Classical.choose_spec (least_ex hI')).2 k' ⟨s', d', rfl, hJ'⟩) hlt
  | exit id => exact h
  | goto l => exact h
  | ret => exact h
  | panic ch => exact h
  | outgrown => exact h

/- the marks of ranges among the deferred calls -/
def marks (Ds : List Nat) (d0 : List Deferred) : List Deferred := Ds.map (fun D => { target := .collected D, args := #[] }) ++ d0
def shut : List Nat → World → World
  | [], w => w
  | D :: Ds, w => shut Ds (w.putObj D (.deferred none))
theorem leave_marks {P : Program} {fn : Func} {tmps : Array Value} {R : Ending → World → Prop} {u : FrameMode} {d0 : List Deferred} (hu : u ≠ .run) : ∀ (Ds : List Nat) (w : World), (∀ D ∈ Ds, w.heap[D]? = some (.deferred (some []))) → Ds.Nodup →
    LeavesInM Fence.wide 0 P fn tmps R d0 u (shut Ds w) → LeavesInM Fence.wide 0 P fn tmps R (marks Ds d0) u w
  | [], _, _, _, h => h
  | D :: Ds, w, hD, hn, h => by
    obtain ⟨hn1, hn2⟩ := List.nodup_cons.1 hn
    refine ⟨hu, .inl ⟨D, _, rfl, run_takeDeferred (hD D (by simp)), leave_marks hu Ds _ ?_ hn2 h⟩⟩
    intro E hE
    have hne : E ≠ D := fun e => hn1 (by rw [← e]; exact hE)
    exact (World.putObj_heap_other hne).trans (hD E (List.mem_cons_of_mem _ hE))
theorem shut_block : ∀ (Ds : List Nat) (w : World) (k : Nat), k ∉ Ds → (shut Ds w).heap[k]? = w.heap[k]?
  | [], _, _, _ => rfl
  | D :: Ds, w, k, h => by
    have h1 : k ≠ D := fun e => h (by simp [e])
    exact (shut_block Ds _ k (fun hm => h (List.mem_cons_of_mem _ hm))).trans (World.putObj_heap_other h1)
theorem shut_size : ∀ (Ds : List Nat) (w : World), (shut Ds w).heap.size = w.heap.size
  | [], _ => rfl
  | D :: Ds, w => (shut_size Ds _).trans (by rw [World.putObj_size])
theorem below_shut {N : Nat} {w0 : World} : ∀ (Ds : List Nat) (w : World), Below N w0 w → (∀ D ∈ Ds, N ≤ D) → Below N w0 (shut Ds w)
  | [], _, h, _ => h
  | D :: Ds, w, h, hD => below_shut Ds _ (bel_put h (hD D (by simp))) (fun E hE => hD E (List.mem_cons_of_mem _ hE))
theorem Cells.shut {w : World} {b : Nat} {l : List Value} (h : Cells w b l) {Ds : List Nat} (hn : b ∉ Ds) : Cells (shut Ds w) b l := h.kept (shut_block Ds w b hn) (by rw [shut_size]; exact Nat.le_refl _)
end


end Go.Proofs.Ytndcmmghgljinaa
