/- The reference's plan. -/
import Derived.Test.YtndcmmghgljinaaW31
import Derived.Test.YtndcmmghgljinaaW18
import Derived.Test.YtndcmmghgljinaaW14
import Derived.Test.YtndcmmghgljinaaW5
set_option linter.all false
namespace Go.Proofs.Ytndcmmghgljinaa
open Go.RowKit


theorem listQ_abs {P : Program} {ops : Array Oper} {n : Nat} {C : World → Prop} {K : (Nat → Value) → Prop} {S : Nat → Value} (h : ∀ s', s' = S → listQ P ops n C K [] s') : listQ P ops n C K [] S := h S rfl
/-- the last night among a, .., i - 1 in the hours from f to c; -1: none -/
def lastIn (l : List Int) (f c : Int) (a : Nat) : Nat → Int
  | 0 => -1
  | i + 1 => if a ≤ i ∧ f ≤ l.getD i 0 ∧ l.getD i 0 ≤ c then (i : Int) else lastIn l f c a i
theorem lastIn_bd (l : List Int) (f c : Int) (a : Nat) : ∀ i, -1 ≤ lastIn l f c a i ∧ lastIn l f c a i < i ∧ (0 ≤ lastIn l f c a i → (a : Int) ≤ lastIn l f c a i)
  | 0 => by unfold lastIn; omega
  | i + 1 => by have := lastIn_bd l f c a i; unfold lastIn; split <;> omega
theorem lastIn_start (l : List Int) (f c : Int) (a : Nat) : ∀ i, i ≤ a → lastIn l f c a i = -1
  | 0, _ => rfl
  | i + 1, h => by unfold lastIn; rw [if_neg (by omega)]; exact lastIn_start l f c a i (by omega)
theorem lastIn_succ {l : List Int} {f c : Int} {a i : Nat} (ha : a ≤ i) (hi : i < l.length) : lastIn l f c a (i + 1) = if inb l[i] f c = true then (i : Int) else lastIn l f c a i := by
  show (if a ≤ i ∧ f ≤ l.getD i 0 ∧ l.getD i 0 ≤ c then _ else _) = _
  rw [getD_get hi]
  by_cases h : f ≤ l[i] ∧ l[i] ≤ c
  · rw [if_pos ⟨ha, h⟩, if_pos ((inb_iff _ _ _).2 h)]
  · rw [if_neg (fun x => h x.2), if_neg (fun x => h ((inb_iff _ _ _).1 x))]
def newSpan (k : Kd) : Span := ⟨k.new, k.new⟩
def canAt (k : Kd) (t : Int) : Int := (failsOf k (newSpan k) t).earliest
/-- the nights of a plan, behind night a, of a valve that can fail at an hour -/
def planGo (k : Kd) (l : List Int) (f u : Int) : Nat → Int → Nat → Option (List Int)
  | 0, _, _ => none
  | n + 1, can, a => if can < 0 ∨ u < can then some [] else
      if lastIn l f can a l.length < 0 then none
      else (planGo k l f u n (canAt k (l.getD (lastIn l f can a l.length).toNat 0)) ((lastIn l f can a l.length).toNat + 1)).map (lastIn l f can a l.length :: ·)
def planR (k : Kd) (l : List Int) (can f u : Int) : Option (List Int) := planGo k l f u (l.length + 1) can 0
def planLs : Option (List Int) → List Int
  | some l => l
  | none => []
def PlanRes (k : Kd) (l : List Int) (can f u : Int) (w : World) (e : Ending) (w' : World) : Prop :=
  ∃ a c, e = .returned (.tuple #[.slice a (planLs (planR k l can f u)).length c, .bool (planR k l can f u).isSome]) ∧ RdInts w' a (planLs (planR k l can f u)) ∧ Below w.heap.size w w' ∧ (∀ b, a = some b → w.heap.size ≤ b.block)
/-- so far: out; what is to come: the plan from can and a -/
def PlanI (k : Kd) (l : List Int) (can0 f u : Int) (n a : Nat) (can : Int) (out : List Int) : Prop := planR k l can0 f u = (planGo k l f u n can a).map (out ++ ·) ∧ l.length < n + a ∧ a ≤ l.length ∧ out.length ≤ a ∧ ∀ x ∈ out, 0 ≤ x ∧ x < l.length
theorem PlanI.start (k : Kd) (l : List Int) (can f u : Int) : PlanI k l can f u (l.length + 1) 0 can [] := ⟨by unfold planR; simp, by omega, by omega, by simp, by simp⟩
theorem PlanI.done {k : Kd} {l : List Int} {can0 f u : Int} {n a : Nat} {can : Int} {out : List Int} (h : PlanI k l can0 f u n a can out) (hc : can < 0 ∨ u < can) : planR k l can0 f u = some out := by
  obtain ⟨h1, h2, h3, _⟩ := h; obtain ⟨m, rfl⟩ : ∃ m, n = m + 1 := ⟨n - 1, by omega⟩; rw [h1]; show ((if can < 0 ∨ u < can then some [] else _) : Option (List Int)).map _ = _; rw [if_pos hc]; simp
theorem PlanI.down {k : Kd} {l : List Int} {can0 f u : Int} {n a : Nat} {can : Int} {out : List Int} (h : PlanI k l can0 f u n a can out) (hc : ¬ (can < 0 ∨ u < can)) (hl : lastIn l f can a l.length < 0) : planR k l can0 f u = none := by
  obtain ⟨h1, h2, h3, _⟩ := h; obtain ⟨m, rfl⟩ : ∃ m, n = m + 1 := ⟨n - 1, by omega⟩; rw [h1]; show ((if can < 0 ∨ u < can then some [] else if lastIn l f can a l.length < 0 then none else _) : Option (List Int)).map _ = _; rw [if_neg hc, if_pos hl]; rfl
theorem PlanI.next {k : Kd} {l : List Int} {can0 f u : Int} {n a : Nat} {can : Int} {out : List Int} (h : PlanI k l can0 f u n a can out) (hc : ¬ (can < 0 ∨ u < can)) (hl : ¬ lastIn l f can a l.length < 0) :
    ∃ m j : Nat, n = m + 1 ∧ lastIn l f can a l.length = (j : Int) ∧ j < l.length ∧ PlanI k l can0 f u m (j + 1) (canAt k (l.getD j 0)) (out ++ [(j : Int)]) := by
  obtain ⟨h1, h2, h3, h4, h5⟩ := h; obtain ⟨m, rfl⟩ : ∃ m, n = m + 1 := ⟨n - 1, by omega⟩; obtain ⟨b1, b2, b3⟩ := lastIn_bd l f can a l.length; have b4 := b3 (by omega); obtain ⟨j, hj⟩ : ∃ j : Nat, lastIn l f can a l.length = j := ⟨(lastIn l f can a l.length).toNat, by omega⟩; refine ⟨m, j, rfl, hj, by omega, ?_, by omega, by omega, by simp; omega, ?_⟩
  · rw [h1]
    show ((if can < 0 ∨ u < can then some [] else if lastIn l f can a l.length < 0 then none else (planGo k l f u m (canAt k (l.getD (lastIn l f can a l.length).toNat 0)) ((lastIn l f can a l.length).toNat + 1)).map (lastIn l f can a l.length :: ·)) : Option (List Int)).map _ = _
    rw [if_neg hc, if_neg hl, hj, Int.toNat_natCast]
    cases planGo k l f u m (canAt k (l.getD j 0)) (j + 1) with
    | none => rfl
    | some x => simp
  · intro x hx
    rcases List.mem_append.1 hx with hx | hx
    · exact h5 x hx
    · simp at hx; subst hx; omega
theorem new_in {k : Kd} (hK : KOk k) : spanIn (newSpan k) := (new_ok hK).in

set_option maxRecDepth 100000 in
set_option maxHeartbeats 4000000 in
theorem rplan_any (k : Kd) (a : Option Addr) (c : Nat) (an : Option Addr) (cn : Nat) (l : List Int) (can0 f u : Int) (w : World) (hR : RdSteps w a k.steps) (hK : KOk k) (hRn : RdInts w an l) (hln : l.length ≤ 20) (hnb : ∀ x ∈ l, 0 ≤ x ∧ x ≤ 100000) :
    Calls Try.prog 65 #[.agg #[.int .i64 k.new, .int .i64 k.wear.lo, .int .i64 k.wear.hi, .slice a k.steps.length c], .slice an l.length cn, .int .i64 can0, .int .i64 f, .int .i64 u] w (PlanRes k l can0 f u w) := by
 have HR := hid hR; have HK := hid hK; have HRn := hid hRn; have Hnb := hid hnb; clear hR hK hRn hnb; obtain ⟨i1, hi1, hz1, hy1, hx1⟩ := info_parts info_int
 refine enter_F Try.func65 rfl Try.ntmps65 (by simp) ?_
 intro s0 hs; have sl0 : s0 0 = .agg #[.int .i64 k.new, .int .i64 k.wear.lo, .int .i64 k.wear.hi, .slice a k.steps.length c] := hs 0 (by simp); have sl1 : s0 1 = .slice an l.length cn := hs 1 (by simp); have sl2 : s0 2 = .int .i64 can0 := hs 2 (by simp); have sl3 : s0 3 = .int .i64 f := hs 3 (by simp); have sl4 : s0 4 = .int .i64 u := hs 4 (by simp); clear hs; have HB := hid (OldB.refl [] w)
 repeat ((fail_if_success refine stp ?_); with_reducible go_step)
 refine region_F ?_; refine pa (fun w1 B5 hB kb5' hb2 => ?_); have gb5 := HB.out.gB hB; have eb5 := eB hB; clear hB; replace HB := hid (HB.out.below hb2); clear hb2; have kb5 := kb5'; clear kb5'; have qb5 := kb5.1; refine pl ?_; refine pl ?_; refine listF_abs (fun s3 z' => ?_); replace sl1 := gs 1 z' sl1; replace sl2 := gs 2 z' sl2; replace sl3 := gs 3 z' sl3; replace sl4 := gs 4 z' sl4; have sl5 := gu 5 z'; clear z' sl0; refine listF_nil ?_
 repeat ((fail_if_success refine stp ?_); with_reducible go_step)
 refine region_F ?_; refine pl ?_; refine listF_abs (fun s4 z' => ?_); replace sl1 := gs 1 z' sl1; replace sl2 := gs 2 z' sl2; replace sl3 := gs 3 z' sl3; replace sl4 := gs 4 z' sl4; replace sl5 := gs 5 z' sl5; have sl12 := gu 12 z'; clear z'; refine listF_nil ?_
 repeat ((fail_if_success refine stp ?_); with_reducible go_step)
 refine region_F ?_; obtain ⟨NB, hNB⟩ : ∃ n, n = w1.heap.size := ⟨_, rfl⟩
 have gNB : w.heap.size ≤ NB := by have := HB.out.size; omega
 have hb5NB : B5 < NB := by omega
 have hleNB : NB ≤ w1.heap.size := by omega
 have hgeNB : w1.heap.size ≤ NB := by omega
 clear hNB; refine pl ?_; refine listF_abs (fun s5 z' => ?_); replace sl1 := gs 1 z' sl1; replace sl2 := gs 2 z' sl2; replace sl3 := gs 3 z' sl3; replace sl4 := gs 4 z' sl4; replace sl5 := gs 5 z' sl5; replace sl12 := gs 12 z' sl12; have sl13 := gu 13 z'; clear z'; refine listF_nil ?_
 repeat ((fail_if_success refine stp ?_); with_reducible go_step)
 have hc0_1 := hid sl1; have hc0_3 := hid sl3; have hc0_4 := hid sl4; have hc0_5 := hid sl5; refine loop_F (n := 59) (fun kJ sJ wJ => ∃ (n a1 : Nat) (can : Int) (v12 : Value) (out : List Int), kJ = n + 0 ∧ sJ 2 = .int .i64 can ∧ sJ 12 = v12 ∧ sJ 13 = .int .i64 ((a1 : Int) - 1) ∧ sJ 1 = s5 1 ∧ sJ 3 = s5 3 ∧ sJ 4 = s5 4 ∧ sJ 5 = s5 5 ∧ OldB [] w1 wJ ∧ Hid (PlanI k l can0 f u n a1 can out) ∧ Own int1 1 3 NB wJ v12 out) ⟨l.length + 1, 0, can0, .slice none 0 0, [], rfl, (by first | exact sl2 | (rw [sl2]; go_num) | (rw [sl2]; rfl)), (by first | exact sl12 | (rw [sl12]; go_num) | (rw [sl12]; rfl)), (by first | exact sl13 | (rw [sl13]; go_num) | (rw [sl13]; rfl)), rfl, rfl, rfl, rfl, OldB.refl _ _, hid (PlanI.start k l can0 f u), Own.nil _ _ _ _ _⟩ ?_; clear sl2 sl12 sl13; rintro kJ s6 w7 ⟨n, a1, can, v12, out, rfl, sl2, sl12, sl13, e1, e3, e4, e5, hb8, hpi, hO12⟩; replace sl1 := e1.trans sl1; clear e1; replace sl3 := e3.trans sl3; clear e3
 replace sl4 := e4.trans sl4; clear e4; replace sl5 := e5.trans sl5; clear e5; have hoJ := hb8; clear qb5; replace kb5 := kb5.oldB hb8 (by first | (simp; done) | (simp; omega)); replace HB := hid (HB.out.more hb8 (by simp; try omega)); clear hb8; have qb5 := kb5.1; have HoJ := hid hoJ; clear hoJ; have HL9 := HoJ; clear HoJ
 repeat ((fail_if_success refine stp ?_); with_reducible go_step)
 have hj10_1 := hid sl1; have hj10_2 := hid sl2; have hj10_3 := hid sl3; have hj10_4 := hid sl4; have hj10_5 := hid sl5; have hj10_12 := hid sl12; have hj10_13 := hid sl13; refine cut_any (fun sJ wJ => sJ 22 = .bool (decide (0 ≤ can) && decide (can ≤ u)) ∧ sJ 1 = s6 1 ∧ sJ 2 = s6 2 ∧ sJ 3 = s6 3 ∧ sJ 4 = s6 4 ∧ sJ 5 = s6 5 ∧ sJ 12 = s6 12 ∧ sJ 13 = s6 13 ∧ OldB [] w7 wJ) ?_ ?_
 ·skip
  have HL11 := hid (OldB.refl [] w7); refine region_F ?_
  iterate 3 refine pl ?_
  refine listF_abs (fun s12 z' => ?_); replace sl1 := gs 1 z' sl1; replace sl2 := gs 2 z' sl2; replace sl3 := gs 3 z' sl3; replace sl4 := gs 4 z' sl4; replace sl5 := gs 5 z' sl5; replace sl12 := gs 12 z' sl12; replace sl13 := gs 13 z' sl13; have sl18 := gu 18 z'; clear z'
  refine boolG sl18 (fun sl18' h18 => ?_) (fun sl18' h18 => ?_) <;> (clear sl18; have sl18 := sl18'; clear sl18')
  ·skip
   have h18' := h18
   iterate 3 refine py ?_
   refine pl ?_; refine listF_abs (fun s13 z' => ?_); replace sl1 := gs 1 z' sl1; replace sl2 := gs 2 z' sl2; replace sl3 := gs 3 z' sl3; replace sl4 := gs 4 z' sl4; replace sl5 := gs 5 z' sl5; replace sl12 := gs 12 z' sl12; replace sl13 := gs 13 z' sl13; have sl19 := gu 19 z'; have sl20 := gu 20 z'; have sl21 := gu 21 z'; have sl22 := gu 22 z'; clear z' sl18; refine listF_nil ?_
   repeat ((fail_if_success refine stp ?_); with_reducible go_step)
   exact ⟨rfl, _, rfl, (by rw [sl22]; simp at h18'; first | (simp [h18']; done) | (simp; omega)), (sl1.trans hj10_1.out.symm), (sl2.trans hj10_2.out.symm), (sl3.trans hj10_3.out.symm), (sl4.trans hj10_4.out.symm), (sl5.trans hj10_5.out.symm), (sl12.trans hj10_12.out.symm), (sl13.trans hj10_13.out.symm), HL11.out⟩
  ·skip
   have h18' := h18
   refine pn false ?_; refine pn false ?_; refine pn false ?_; refine pl ?_; refine listF_abs (fun s14 z' => ?_); replace sl1 := gs 1 z' sl1; replace sl2 := gs 2 z' sl2; replace sl3 := gs 3 z' sl3; replace sl4 := gs 4 z' sl4; replace sl5 := gs 5 z' sl5; replace sl12 := gs 12 z' sl12; replace sl13 := gs 13 z' sl13; have sl22 := gu 22 z'; clear z' sl18; refine listF_nil ?_
   repeat ((fail_if_success refine stp ?_); with_reducible go_step)
   exact ⟨rfl, _, rfl, (by rw [sl22]; simp at h18'; first | (simp [h18']; done) | (simp; omega)), (sl1.trans hj10_1.out.symm), (sl2.trans hj10_2.out.symm), (sl3.trans hj10_3.out.symm), (sl4.trans hj10_4.out.symm), (sl5.trans hj10_5.out.symm), (sl12.trans hj10_12.out.symm), (sl13.trans hj10_13.out.symm), HL11.out⟩
 ·skip
  rintro s15 w16 ⟨sl22, e1, e2, e3, e4, e5, e12, e13, hb17⟩; replace sl1 := e1.trans sl1; clear e1 hj10_1; replace sl2 := e2.trans sl2; clear e2 hj10_2; replace sl3 := e3.trans sl3; clear e3 hj10_3; replace sl4 := e4.trans sl4; clear e4 hj10_4; replace sl5 := e5.trans sl5; clear e5 hj10_5; replace sl12 := e12.trans sl12; clear e12 hj10_12; replace sl13 := e13.trans sl13; clear e13 hj10_13; clear qb5; replace kb5 := kb5.oldB hb17 (by first | (simp; done) | (simp; omega)); replace HL9 := hid (HL9.out.more hb17 (by simp; try omega)); replace hO12 := Own.oldB hO12 hb17 (fun g hg => by have n0 := (World.ownsRow.lt hO12 g hg).1; first | (simp; done) | (simp; omega)); replace HB := hid (HB.out.more hb17 (by simp; try omega)); clear hb17; have qb5 := kb5.1
  repeat ((fail_if_success refine stp ?_); with_reducible go_step)
  refine cond_E sl22 (by decide) ?_ ?_ <;> (clear sl22; intro h22 sl22)
  ·skip
   have Hc := hid (show ¬ (can < 0 ∨ u < can) by have h := h22; simp at h; omega); have hlh := hpi.out.2.2.1
   repeat ((fail_if_success refine stp ?_); with_reducible go_step)
   refine region_F ?_; refine pl ?_; refine listF_abs (fun s18 z' => ?_); replace sl1 := gs 1 z' sl1; replace sl2 := gs 2 z' sl2; replace sl3 := gs 3 z' sl3; replace sl4 := gs 4 z' sl4; replace sl5 := gs 5 z' sl5; replace sl12 := gs 12 z' sl12; replace sl13 := gs 13 z' sl13; have sl14 := gu 14 z'; clear z' sl22; refine listF_nil ?_
   repeat ((fail_if_success refine stp ?_); with_reducible go_step)
   refine region_F ?_; refine pl ?_; have w24 : IntKind.i64.wrap ((a1 : Int) - 1 + 1) = (a1 : Int) := (IntWalk.i64_in _ (by omega)).trans (by omega); have w25 : IntKind.i64.wrap (a1 : Int) = (a1 : Int) := IntWalk.i64_in _ (by omega); refine pl ?_; refine pl ?_; refine listF_abs (fun s19 z' => ?_); replace sl1 := gs 1 z' sl1; replace sl2 := gs 2 z' sl2; replace sl3 := gs 3 z' sl3; replace sl4 := gs 4 z' sl4; replace sl5 := gs 5 z' sl5; replace sl12 := gs 12 z' sl12; replace sl14 := gs 14 z' sl14; have sl15 := gu 15 z'; clear z' sl13; refine listF_nil ?_
   repeat ((fail_if_success refine stp ?_); with_reducible go_step)
   have hc1_1 := hid sl1; have hc1_2 := hid sl2; have hc1_3 := hid sl3; have hc1_4 := hid sl4; have hc1_5 := hid sl5; have hc1_12 := hid sl12; refine loop_F (n := 59) (fun kJ sJ wJ => ∃ (i : Nat), kJ = l.length - i ∧ sJ 14 = .int .i64 (lastIn l f can a1 i) ∧ sJ 15 = .int .i64 (i : Int) ∧ sJ 1 = s19 1 ∧ sJ 2 = s19 2 ∧ sJ 3 = s19 3 ∧ sJ 4 = s19 4 ∧ sJ 5 = s19 5 ∧ sJ 12 = s19 12 ∧ OldB [] w16 wJ ∧ a1 ≤ i ∧ i ≤ l.length) ⟨a1, rfl, (by rw [sl14, lastIn_start _ _ _ _ _ (Nat.le_refl _)]), (by rw [sl15]; first | done | rw [w25]), rfl, rfl, rfl, rfl, rfl, rfl, OldB.refl _ _, Nat.le_refl _, hlh⟩ ?_; clear sl14 sl15; rintro kJ s20 w21 ⟨i, rfl, sl14, sl15, e1, e2, e3, e4, e5, e12, hb22, hai, hil⟩; replace sl1 := e1.trans sl1; clear e1; replace sl2 := e2.trans sl2; clear e2; replace sl3 := e3.trans sl3; clear e3; replace sl4 := e4.trans sl4; clear e4; replace sl5 := e5.trans sl5; clear e5; replace sl12 := e12.trans sl12; clear e12
   have hoJ := hb22; clear qb5; replace kb5 := kb5.oldB hb22 (by first | (simp; done) | (simp; omega)); replace HL9 := hid (HL9.out.more hb22 (by simp; try omega)); replace hO12 := Own.oldB hO12 hb22 (fun g hg => by have n0 := (World.ownsRow.lt hO12 g hg).1; first | (simp; done) | (simp; omega)); replace HB := hid (HB.out.more hb22 (by simp; try omega)); clear hb22; have qb5 := kb5.1; have HoJ := hid hoJ; clear hoJ; have HL23 := HoJ; clear HoJ
   repeat ((fail_if_success refine stp ?_); with_reducible go_step)
   refine region_F ?_
   iterate 4 refine pl ?_
   refine listF_abs (fun s24 z' => ?_); replace sl1 := gs 1 z' sl1; replace sl2 := gs 2 z' sl2; replace sl3 := gs 3 z' sl3; replace sl4 := gs 4 z' sl4; replace sl5 := gs 5 z' sl5; replace sl12 := gs 12 z' sl12; replace sl14 := gs 14 z' sl14; replace sl15 := gs 15 z' sl15; have sl28 := gu 28 z'; clear z'; refine listF_nil ?_
   repeat ((fail_if_success refine stp ?_); with_reducible go_step)
   refine cond_E sl28 (by decide) ?_ ?_ <;> (clear sl28; intro h28 sl28)
   ·skip
    have hlt : i < l.length := by simpa using h28
    obtain ⟨b, off, rfl, hbs, c0⟩ := RdInts.ne (Rd.oldB HRn.out HB.out (by simp)) hlt
    have hlt' : (i : Int) < l.length := by omega
    have Hls := hid (lastIn_succ (f := f) (c := can) hai hlt); have wii : IntKind.i64.wrap ((i : Int) + 1) = (i : Int) + 1 := IntWalk.i64_in _ (by omega)
    repeat ((fail_if_success refine stp ?_); with_reducible go_step)
    refine region_F ?_
    iterate 6 refine pl ?_
    refine listF_step rfl (fun K' hK => ?_); unfold opF; go_simp; refine (rin_any l[i] f can _).mono ?_; rintro e w' ⟨rfl, rfl⟩; refine ⟨_, rfl, hK _ _ ?_⟩; clear hK K'; refine listF_abs (fun s26 z' => ?_); replace sl1 := gs 1 z' sl1; replace sl2 := gs 2 z' sl2; replace sl3 := gs 3 z' sl3; replace sl4 := gs 4 z' sl4; replace sl5 := gs 5 z' sl5; replace sl12 := gs 12 z' sl12; replace sl14 := gs 14 z' sl14; replace sl15 := gs 15 z' sl15; have sl37 := gu 37 z'; clear z' sl28; refine listF_nil ?_
    repeat ((fail_if_success refine stp ?_); with_reducible go_step)
    refine cond_E sl37 (by decide) ?_ ?_ <;> (clear sl37; intro h37 sl37)
    ·skip
     have Hl1 := hid (show lastIn l f can a1 (i + 1) = (i : Int) by rw [Hls.out, if_pos h37])
     repeat ((fail_if_success refine stp ?_); with_reducible go_step)
     refine region_F ?_; refine pl ?_; refine pl ?_; refine listF_abs (fun s27 z' => ?_); replace sl1 := gs 1 z' sl1; replace sl2 := gs 2 z' sl2; replace sl3 := gs 3 z' sl3; replace sl4 := gs 4 z' sl4; replace sl5 := gs 5 z' sl5; replace sl12 := gs 12 z' sl12; replace sl14 := gu 14 z'; replace sl15 := gs 15 z' sl15; clear z' sl37; refine listF_nil ?_
     repeat ((fail_if_success refine stp ?_); with_reducible go_step)
     refine region_F ?_
     iterate 3 refine pl ?_
     refine listF_abs (fun s28 z' => ?_); replace sl1 := gs 1 z' sl1; replace sl2 := gs 2 z' sl2; replace sl3 := gs 3 z' sl3; replace sl4 := gs 4 z' sl4; replace sl5 := gs 5 z' sl5; replace sl12 := gs 12 z' sl12; replace sl14 := gs 14 z' sl14; replace sl15 := gu 15 z'; clear z'; refine listF_nil ?_
     repeat ((fail_if_success refine stp ?_); with_reducible go_step)
     refine ⟨_, _, rfl, ?_, i + 1, rfl, (by rw [sl14, Hl1.out]), (by first | (with_reducible exact sl15) | (rw [sl15]; (with_reducible go_num); done) | (rw [sl15, IntWalk.i64_in] <;> first | ((with_reducible go_num); done) | omega) | (rw [sl15]; go_num; done) | (rw [sl15]; simp; done) | (rw [sl15]; simp; omega)), (sl1.trans hc1_1.out.symm), (sl2.trans hc1_2.out.symm), (sl3.trans hc1_3.out.symm), (sl4.trans hc1_4.out.symm), (sl5.trans hc1_5.out.symm), (sl12.trans hc1_12.out.symm), HL23.out, by omega, by omega⟩
     omega
    ·skip
     have Hl1 := hid (show lastIn l f can a1 (i + 1) = lastIn l f can a1 i by rw [Hls.out, if_neg (by rw [h37]; decide)])
     repeat ((fail_if_success refine stp ?_); with_reducible go_step)
     refine region_F ?_
     iterate 3 refine pl ?_
     refine listF_abs (fun s29 z' => ?_); replace sl1 := gs 1 z' sl1; replace sl2 := gs 2 z' sl2; replace sl3 := gs 3 z' sl3; replace sl4 := gs 4 z' sl4; replace sl5 := gs 5 z' sl5; replace sl12 := gs 12 z' sl12; replace sl14 := gs 14 z' sl14; replace sl15 := gu 15 z'; clear z' sl37; refine listF_nil ?_
     repeat ((fail_if_success refine stp ?_); with_reducible go_step)
     refine ⟨_, _, rfl, ?_, i + 1, rfl, (by rw [sl14, Hl1.out]), (by first | (with_reducible exact sl15) | (rw [sl15]; (with_reducible go_num); done) | (rw [sl15, IntWalk.i64_in] <;> first | ((with_reducible go_num); done) | omega) | (rw [sl15]; go_num; done) | (rw [sl15]; simp; done) | (rw [sl15]; simp; omega)), (sl1.trans hc1_1.out.symm), (sl2.trans hc1_2.out.symm), (sl3.trans hc1_3.out.symm), (sl4.trans hc1_4.out.symm), (sl5.trans hc1_5.out.symm), (sl12.trans hc1_12.out.symm), HL23.out, by omega, by omega⟩
     omega
   ·skip
    have hge : ¬ i < l.length := by simpa using h28
    have Hie := hid (show i = l.length by omega); have sl14' := sl14; rw [Hie.out] at sl14'; clear sl14; have sl14 := sl14'; clear sl14'
    repeat ((fail_if_success refine stp ?_); with_reducible go_step)
    clear HL23; clear hc1_1 hc1_2 hc1_3 hc1_4 hc1_5 hc1_12; refine region_F ?_; refine pl ?_; refine pl ?_; refine listF_abs (fun s30 z' => ?_); replace sl1 := gs 1 z' sl1; replace sl3 := gs 3 z' sl3; replace sl4 := gs 4 z' sl4; replace sl5 := gs 5 z' sl5; replace sl12 := gs 12 z' sl12; replace sl14 := gs 14 z' sl14; have sl40 := gu 40 z'; clear z' sl2 sl15 sl28; refine listF_nil ?_
    repeat ((fail_if_success refine stp ?_); with_reducible go_step)
    refine cond_E sl40 (by decide) ?_ ?_ <;> (clear sl40; intro h40 sl40)
    ·skip
     have Hd := hid (hpi.out.down Hc.out (by simpa using h40))
     repeat ((fail_if_success refine stp ?_); with_reducible go_step)
     refine region_F ?_; refine pl ?_; refine pl ?_; refine listF_abs (fun s31 z' => ?_); have sl10 := gu 10 z'; have sl11 := gu 11 z'; clear z' sl1 sl3 sl4 sl5 sl12 sl14 sl40; refine listF_nil ?_
     repeat ((fail_if_success refine stp ?_); with_reducible go_step)
     refine ret_F _ (res_tt Try.results65 ((getD_F (by decide)).trans sl10) ((getD_F (by decide)).trans sl11)) ?_; exact ⟨none, 0, by rw [Hd.out]; rfl, by rw [Hd.out]; exact .inl rfl, HB.out.toBelow, (fun b hb => by cases hb)⟩
    ·skip
     obtain ⟨n1, j, rfl, hlj, hj, hpn⟩ := hpi.out.next Hc.out (by simpa using h40); have Hpn := hid hpn; rw [hlj] at sl14; clear hlj hpn
     have hj' : (j : Int) < l.length := by omega
     have Hgj := hid (show l.getD j 0 = l[j] from getD_get hj 0); have hol := hpi.out.2.2.2.1; clear Hie
     repeat ((fail_if_success refine stp ?_); with_reducible go_step)
     refine region_F ?_; refine pl ?_; refine pl ?_; refine pas (fun w32 B43 hB kb43' hb33 => ?_); have gb43 := HB.out.gB hB; have lHL9_b43 := HL9.out.gB hB; have ob5_b43 := oB qb5 hB
     have nhO12_b43 : ∀ g, v12.ownBlock = some g → g < B43 := fun g hg => by have := (World.ownsRow.lt hO12 g hg).2; omega
     have eb43 := eB hB; clear hB; clear qb5; replace kb5 := kb5.at hb33; replace HL9 := hid (HL9.out.below hb33); replace hO12 := Own.at hO12 hb33; replace HB := hid (HB.out.below hb33); clear hb33; have qb5 := kb5.1; have kb43 := kb43'; clear kb43'; have qb43 := kb43.1
     have ab5 : v12.ownBlock ≠ some B5 := fun e => by have n0 := (World.ownsRow.lt hO12 _ e).1; omega
     have ab43 : v12.ownBlock ≠ some B43 := fun e => by have n0 := (World.ownsRow.lt hO12 _ e).1; have n9 := nhO12_b43 _ e; omega
     have hzz := HB.out.size; refine listF_step rfl (fun K' hK => ?_); refine opF_app (d := 44) rfl (by decide) (.tmp 41) (.tmp 43) _ rfl 3 i1 _ 8 Try.underlying47 hi1 hz1 hy1 hx1 rfl (by decide) (fun _ => rfl) int_one NB v12 out [(j : Int)] (some ⟨B43, 0, none⟩) 1 (by go_simp) (by go_simp) hO12 (Cells.rd (f := int1) (m := 1) (l := [(j : Int)]) (fun _ => rfl) kb43) (by unfold maxLen; simp; omega) (by simp; omega) (by omega) (fun v44 w34 hO' hG hV => hK _ _ ?_); clear hK K' hzz; clear qb5 qb43; replace kb5 := kb5.grown hG ab5; clear ab5; replace kb43 := kb43.grown hG ab43; clear ab43; replace HL9 := hid (HL9.out.grown hG (fun k hk => .inl (by have := (World.ownsRow.lt hO12 k hk).1; omega))); replace HB := hid (HB.out.grown hG (fun k hk => .inl (by have := (World.ownsRow.lt hO12 k hk).1; omega))); clear hO12; have hO12 := hO'; clear hO' hG hV; clear nhO12_b43; have qb5 := kb5.1; have qb43 := kb43.1
     iterate 3 refine pl ?_
     refine listF_abs (fun s35 z' => ?_); replace sl1 := gs 1 z' sl1; replace sl3 := gs 3 z' sl3; replace sl4 := gs 4 z' sl4; replace sl5 := gs 5 z' sl5; replace sl12 := gu 12 z'; have sl13 := gu 13 z'; replace sl14 := gs 14 z' sl14; clear z' sl40; refine listF_nil ?_
     repeat ((fail_if_success refine stp ?_); with_reducible go_step)
     obtain ⟨b, off, rfl, hbs, c0⟩ := RdInts.ne (Rd.oldB HRn.out HB.out (by simp)) hj
     ·skip
      have cb5_0 := kb5.cell 0 rfl; have cb5_1 := kb5.cell 1 rfl; have cb5_2 := kb5.cell 2 rfl; have cb5_3 := kb5.cell 3 rfl; have cb43_0 := kb43.cell 0 rfl; refine regionQ_F (Below w34.heap.size w34) (by kernel_rfl) (by kernel_rfl) (Below.refl _ _).drew ?_
      iterate 10 refine lq ?_
      refine listQ_step (v := ?_) rfl ?_ ?_; rotate_left
      · focus (intro wq hwq; obtain ⟨hcq, hfq⟩ := bcell hwq; go_simp; have hQ := callQ (rfails_any k a c (newSpan k) (l[j]) _ (Rd.oldB HR.out (HB.out.below hwq) (by simp)) HK.out (new_in HK.out) (Hnb.out _ (List.getElem_mem hj))) hwq; exact hQ)
      refine lq ?_; refine lq ?_; refine listQ_abs (fun s38 z' => ?_); replace sl1 := gs 1 z' sl1; have sl2 := gu 2 z'; replace sl3 := gs 3 z' sl3; replace sl4 := gs 4 z' sl4; replace sl5 := gs 5 z' sl5; replace sl12 := gs 12 z' sl12; replace sl13 := gs 13 z' sl13; clear z' sl14; refine listQ_nil ?_; intro w36 hb37; clear cb43_0 cb5_0 cb5_1 cb5_2 cb5_3; clear qb5 qb43; replace kb5 := kb5.at hb37; replace kb43 := kb43.at hb37; replace HL9 := hid (HL9.out.below hb37); replace hO12 := Own.at hO12 hb37; replace HB := hid (HB.out.below hb37); clear hb37; have qb5 := kb5.1; have qb43 := kb43.1
      repeat ((fail_if_success refine stp ?_); with_reducible go_step)
      refine ⟨_, _, rfl, ?_, n1, j + 1, (canAt k (l.getD j 0)), v44, (out ++ [(j : Int)]), rfl, (by rw [sl2, Hgj.out]; rfl), (by first | (with_reducible exact sl12) | (rw [sl12]; (with_reducible go_num); done) | (rw [sl12, IntWalk.i64_in] <;> first | ((with_reducible go_num); done) | omega) | (rw [sl12]; go_num; done) | (rw [sl12]; simp; done) | (rw [sl12]; simp; omega)), (by first | (with_reducible exact sl13) | (rw [sl13]; (with_reducible go_num); done) | (rw [sl13, IntWalk.i64_in] <;> first | ((with_reducible go_num); done) | omega) | (rw [sl13]; go_num; done) | (rw [sl13]; simp; done) | (rw [sl13]; simp; omega)), (sl1.trans hc0_1.out.symm), (sl3.trans hc0_3.out.symm), (sl4.trans hc0_4.out.symm), (sl5.trans hc0_5.out.symm), HL9.out, Hpn, hO12⟩
      omega
  ·skip
   have Hc := hid (show can < 0 ∨ u < can by have h := h22; simp at h; rcases Int.lt_or_le can 0 with h0 | h0; exact .inl h0; exact .inr (h h0))
   repeat ((fail_if_success refine stp ?_); with_reducible go_step)
   clear HL9; clear hc0_1 hc0_3 hc0_4 hc0_5; refine region_F ?_
   iterate 3 refine pl ?_
   refine listF_abs (fun s39 z' => ?_); have sl10 := gu 10 z'; have sl11 := gu 11 z'; clear z' sl1 sl2 sl3 sl4 sl5 sl12 sl13 sl22; refine listF_nil ?_
   repeat ((fail_if_success refine stp ?_); with_reducible go_step)
   refine ret_F _ (res_tt Try.results65 ((getD_F (by decide)).trans sl10) ((getD_F (by decide)).trans sl11)) ?_; have Hd := hid (hpi.out.done Hc.out); obtain ⟨a12, c12, rfl, hr12, hn12⟩ := Own.slice (f := int1) (m := 1) (fun _ => rfl) hO12; exact ⟨a12, c12, by rw [Hd.out]; rfl, by rw [Hd.out]; exact hr12, HB.out.toBelow, (fun b hb => by have := hn12 b hb; omega)⟩

end Go.Proofs.Ytndcmmghgljinaa
