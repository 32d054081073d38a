/- Replace: plain laws; a plan in memory. -/
import Derived.Test.YtndcmmghgljinaardW31
import Derived.Test.YtndcmmghgljinaardW18
import Derived.Test.YtndcmmghgljinaardW5
set_option linter.all false
namespace Go.Proofs.Ytndcmmghgljinaa

section
open Go.RowKit


theorem listQ_abs {P : Program} {ops : Array Oper} {n : Nat} {C : World → Prop} {K : (Nat → Value) → Prop} {S : Nat → Value} (h : ∀ s', s' = S → listQ P ops n C K [] s') : listQ P ops n C K [] S := h S rfl
/-- the last night among a, .., i - 1 in the hours from f to c; -1: none -/
def lastIn (l : List Int) (f c : Int) (a : Nat) : Nat → Int
  | 0 => -1
  | i + 1 => if a ≤ i ∧ f ≤ l.getD i 0 ∧ l.getD i 0 ≤ c then (i : Int) else lastIn l f c a i
theorem lastIn_bd (l : List Int) (f c : Int) (a : Nat) : ∀ i, -1 ≤ lastIn l f c a i ∧ lastIn l f c a i < i ∧ (0 ≤ lastIn l f c a i → (a : Int) ≤ lastIn l f c a i)
  | 0 => by unfold lastIn; omega
  | i + 1 => by have := lastIn_bd l f c a i; unfold lastIn; split <;> omega
theorem lastIn_start (l : List Int) (f c : Int) (a : Nat) : ∀ i, i ≤ a → lastIn l f c a i = -1
  | 0, _ => rfl
  | i + 1, h => by unfold lastIn; rw [if_neg (by omega)]; exact lastIn_start l f c a i (by omega)
theorem lastIn_succ {l : List Int} {f c : Int} {a i : Nat} (ha : a ≤ i) (hi : i < l.length) : lastIn l f c a (i + 1) = if inb l[i] f c = true then (i : Int) else lastIn l f c a i := by
  show (if a ≤ i ∧ f ≤ l.getD i 0 ∧ l.getD i 0 ≤ c then _ else _) = _
  rw [getD_get hi]
  by_cases h : f ≤ l[i] ∧ l[i] ≤ c
  · rw [if_pos ⟨ha, h⟩, if_pos ((inb_iff _ _ _).2 h)]
  · rw [if_neg (fun x => h x.2), if_neg (fun x => h ((inb_iff _ _ _).1 x))]
def newSpan (k : Kd) : Span := ⟨k.new, k.new⟩
def canAt (k : Kd) (t : Int) : Int := (failsOf k (newSpan k) t).earliest
/-- the nights of a plan, behind night a, of a valve that can fail at an hour -/
def planGo (k : Kd) (l : List Int) (f u : Int) : Nat → Int → Nat → Option (List Int)
  | 0, _, _ => none
  | n + 1, can, a => if can < 0 ∨ u < can then some [] else
      if lastIn l f can a l.length < 0 then none
      else (planGo k l f u n (canAt k (l.getD (lastIn l f can a l.length).toNat 0)) ((lastIn l f can a l.length).toNat + 1)).map (lastIn l f can a l.length :: ·)
def planR (k : Kd) (l : List Int) (can f u : Int) : Option (List Int) := planGo k l f u (l.length + 1) can 0
def planLs : Option (List Int) → List Int
  | some l => l
  | none => []
def PlanRes (k : Kd) (l : List Int) (can f u : Int) (w : World) (e : Ending) (w' : World) : Prop :=
  ∃ a c, e = .returned (.tuple #[.slice a (planLs (planR k l can f u)).length c, .bool (planR k l can f u).isSome]) ∧ RdInts w' a (planLs (planR k l can f u)) ∧ Below w.heap.size w w' ∧ (∀ b, a = some b → w.heap.size ≤ b.block)
/-- so far: out; what is to come: the plan from can and a -/
def PlanI (k : Kd) (l : List Int) (can0 f u : Int) (n a : Nat) (can : Int) (out : List Int) : Prop := planR k l can0 f u = (planGo k l f u n can a).map (out ++ ·) ∧ l.length < n + a ∧ a ≤ l.length ∧ out.length ≤ a ∧ ∀ x ∈ out, 0 ≤ x ∧ x < l.length
theorem PlanI.start (k : Kd) (l : List Int) (can f u : Int) : PlanI k l can f u (l.length + 1) 0 can [] := ⟨by unfold planR; simp, by omega, by omega, by simp, by simp⟩
theorem PlanI.done {k : Kd} {l : List Int} {can0 f u : Int} {n a : Nat} {can : Int} {out : List Int} (h : PlanI k l can0 f u n a can out) (hc : can < 0 ∨ u < can) : planR k l can0 f u = some out := by
  obtain ⟨h1, h2, h3, _⟩ := h; obtain ⟨m, rfl⟩ : ∃ m, n = m + 1 := ⟨n - 1, by omega⟩; rw [h1]; show ((if can < 0 ∨ u < can then some [] else _) : Option (List Int)).map _ = _; rw [if_pos hc]; simp
theorem PlanI.down {k : Kd} {l : List Int} {can0 f u : Int} {n a : Nat} {can : Int} {out : List Int} (h : PlanI k l can0 f u n a can out) (hc : ¬ (can < 0 ∨ u < can)) (hl : lastIn l f can a l.length < 0) : planR k l can0 f u = none := by
  obtain ⟨h1, h2, h3, _⟩ := h; obtain ⟨m, rfl⟩ : ∃ m, n = m + 1 := ⟨n - 1, by omega⟩; rw [h1]; show ((if can < 0 ∨ u < can then some [] else if lastIn l f can a l.length < 0 then none else _) : Option (List Int)).map _ = _; rw [if_neg hc, if_pos hl]; rfl
theorem PlanI.next {k : Kd} {l : List Int} {can0 f u : Int} {n a : Nat} {can : Int} {out : List Int} (h : PlanI k l can0 f u n a can out) (hc : ¬ (can < 0 ∨ u < can)) (hl : ¬ lastIn l f can a l.length < 0) :
    ∃ m j : Nat, n = m + 1 ∧ lastIn l f can a l.length = (j : Int) ∧ j < l.length ∧ PlanI k l can0 f u m (j + 1) (canAt k (l.getD j 0)) (out ++ [(j : Int)]) := by
  obtain ⟨h1, h2, h3, h4, h5⟩ := h; obtain ⟨m, rfl⟩ : ∃ m, n = m + 1 := ⟨n - 1, by omega⟩; obtain ⟨b1, b2, b3⟩ := lastIn_bd l f can a l.length; have b4 := b3 (by omega); obtain ⟨j, hj⟩ : ∃ j : Nat, lastIn l f can a l.length = j := ⟨(lastIn l f can a l.length).toNat, by omega⟩; refine ⟨m, j, rfl, hj, by omega, ?_, by omega, by omega, by simp; omega, ?_⟩
  · rw [h1]
    show ((if can < 0 ∨ u < can then some [] else if lastIn l f can a l.length < 0 then none else (planGo k l f u m (canAt k (l.getD (lastIn l f can a l.length).toNat 0)) ((lastIn l f can a l.length).toNat + 1)).map (lastIn l f can a l.length :: ·)) : Option (List Int)).map _ = _
    rw [if_neg hc, if_neg hl, hj, Int.toNat_natCast]
    cases planGo k l f u m (canAt k (l.getD j 0)) (j + 1) with
    | none => rfl
    | some x => simp
  · intro x hx
    rcases List.mem_append.1 hx with hx | hx
    · exact h5 x hx
    · simp at hx; subst hx; omega
theorem new_in {k : Kd} (hK : KOk k) : spanIn (newSpan k) := (new_ok hK).in

set_option maxRecDepth 100000 in
set_option maxHeartbeats 4000000 in
theorem rplan_any (k : Kd) (a : Option Addr) (c : Nat) (an : Option Addr) (cn : Nat) (l : List Int) (can0 f u : Int) (w : World) (hR : RdSteps w a k.steps) (hK : KOk k) (hRn : RdInts w an l) (hln : l.length ≤ 20) (hnb : ∀ x ∈ l, 0 ≤ x ∧ x ≤ 100000) :
    Calls Try.prog 65 #[.agg #[.int .i64 k.new, .int .i64 k.wear.lo, .int .i64 k.wear.hi, .slice a k.steps.length c], .slice an l.length cn, .int .i64 can0, .int .i64 f, .int .i64 u] w (PlanRes k l can0 f u w) := by
 have HR := hid hR; have HK := hid hK; have HRn := hid hRn; have Hnb := hid hnb; clear hR hK hRn hnb; obtain ⟨i1, hi1, hz1, hy1, hx1⟩ := info_parts info_int
 refine enter_F Try.func65 rfl Try.ntmps65 (by simp) ?_
 intro s0 hs; have sl0 : s0 0 = .agg #[.int .i64 k.new, .int .i64 k.wear.lo, .int .i64 k.wear.hi, .slice a k.steps.length c] := hs 0 (by simp); have sl1 : s0 1 = .slice an l.length cn := hs 1 (by simp); have sl2 : s0 2 = .int .i64 can0 := hs 2 (by simp); have sl3 : s0 3 = .int .i64 f := hs 3 (by simp); have sl4 : s0 4 = .int .i64 u := hs 4 (by simp); clear hs; have HB := hid (OldB.refl [] w)
 repeat ((fail_if_success refine stp ?_); with_reducible go_step)
 refine region_F ?_; refine pa (fun w1 B5 hB kb5' hb2 => ?_); have gb5 := HB.out.gB hB; have eb5 := eB hB; clear hB; replace HB := hid (HB.out.below hb2); clear hb2; have kb5 := kb5'; clear kb5'; have qb5 := kb5.1; refine pl ?_; refine pl ?_; refine listF_abs (fun s3 z' => ?_); replace sl1 := gs 1 z' sl1; replace sl2 := gs 2 z' sl2; replace sl3 := gs 3 z' sl3; replace sl4 := gs 4 z' sl4; have sl5 := gu 5 z'; clear z' sl0; refine listF_nil ?_
 repeat ((fail_if_success refine stp ?_); with_reducible go_step)
 refine region_F ?_; refine pl ?_; refine listF_abs (fun s4 z' => ?_); replace sl1 := gs 1 z' sl1; replace sl2 := gs 2 z' sl2; replace sl3 := gs 3 z' sl3; replace sl4 := gs 4 z' sl4; replace sl5 := gs 5 z' sl5; have sl12 := gu 12 z'; clear z'; refine listF_nil ?_
 repeat ((fail_if_success refine stp ?_); with_reducible go_step)
 refine region_F ?_; obtain ⟨NB, hNB⟩ : ∃ n, n = w1.heap.size := ⟨_, rfl⟩
 have gNB : w.heap.size ≤ NB := by have := HB.out.size; omega
 have hb5NB : B5 < NB := by omega
 have hleNB : NB ≤ w1.heap.size := by omega
 have hgeNB : w1.heap.size ≤ NB := by omega
 clear hNB; refine pl ?_; refine listF_abs (fun s5 z' => ?_); replace sl1 := gs 1 z' sl1; replace sl2 := gs 2 z' sl2; replace sl3 := gs 3 z' sl3; replace sl4 := gs 4 z' sl4; replace sl5 := gs 5 z' sl5; replace sl12 := gs 12 z' sl12; have sl13 := gu 13 z'; clear z'; refine listF_nil ?_
 repeat ((fail_if_success refine stp ?_); with_reducible go_step)
 have hc0_1 := hid sl1; have hc0_3 := hid sl3; have hc0_4 := hid sl4; have hc0_5 := hid sl5; refine loop_F (n := 59) (fun kJ sJ wJ => ∃ (n a1 : Nat) (can : Int) (v12 : Value) (out : List Int), kJ = n + 0 ∧ sJ 2 = .int .i64 can ∧ sJ 12 = v12 ∧ sJ 13 = .int .i64 ((a1 : Int) - 1) ∧ sJ 1 = s5 1 ∧ sJ 3 = s5 3 ∧ sJ 4 = s5 4 ∧ sJ 5 = s5 5 ∧ OldB [] w1 wJ ∧ Hid (PlanI k l can0 f u n a1 can out) ∧ Own int1 1 3 NB wJ v12 out) ⟨l.length + 1, 0, can0, .slice none 0 0, [], rfl, (by first | exact sl2 | (rw [sl2]; go_num) | (rw [sl2]; rfl)), (by first | exact sl12 | (rw [sl12]; go_num) | (rw [sl12]; rfl)), (by first | exact sl13 | (rw [sl13]; go_num) | (rw [sl13]; rfl)), rfl, rfl, rfl, rfl, OldB.refl _ _, hid (PlanI.start k l can0 f u), Own.nil _ _ _ _ _⟩ ?_; clear sl2 sl12 sl13; rintro kJ s6 w7 ⟨n, a1, can, v12, out, rfl, sl2, sl12, sl13, e1, e3, e4, e5, hb8, hpi, hO12⟩; replace sl1 := e1.trans sl1; clear e1; replace sl3 := e3.trans sl3; clear e3
 replace sl4 := e4.trans sl4; clear e4; replace sl5 := e5.trans sl5; clear e5; have hoJ := hb8; clear qb5; replace kb5 := kb5.oldB hb8 (by first | (simp; done) | (simp; omega)); replace HB := hid (HB.out.more hb8 (by simp; try omega)); clear hb8; have qb5 := kb5.1; have HoJ := hid hoJ; clear hoJ; have HL9 := HoJ; clear HoJ
 repeat ((fail_if_success refine stp ?_); with_reducible go_step)
 have hj10_1 := hid sl1; have hj10_2 := hid sl2; have hj10_3 := hid sl3; have hj10_4 := hid sl4; have hj10_5 := hid sl5; have hj10_12 := hid sl12; have hj10_13 := hid sl13; refine cut_any (fun sJ wJ => sJ 22 = .bool (decide (0 ≤ can) && decide (can ≤ u)) ∧ sJ 1 = s6 1 ∧ sJ 2 = s6 2 ∧ sJ 3 = s6 3 ∧ sJ 4 = s6 4 ∧ sJ 5 = s6 5 ∧ sJ 12 = s6 12 ∧ sJ 13 = s6 13 ∧ OldB [] w7 wJ) ?_ ?_
 ·skip
  have HL11 := hid (OldB.refl [] w7); refine region_F ?_
  iterate 3 refine pl ?_
  refine listF_abs (fun s12 z' => ?_); replace sl1 := gs 1 z' sl1; replace sl2 := gs 2 z' sl2; replace sl3 := gs 3 z' sl3; replace sl4 := gs 4 z' sl4; replace sl5 := gs 5 z' sl5; replace sl12 := gs 12 z' sl12; replace sl13 := gs 13 z' sl13; have sl18 := gu 18 z'; clear z'
  refine boolG sl18 (fun sl18' h18 => ?_) (fun sl18' h18 => ?_) <;> (clear sl18; have sl18 := sl18'; clear sl18')
  ·skip
   have h18' := h18
   iterate 3 refine py ?_
   refine pl ?_; refine listF_abs (fun s13 z' => ?_); replace sl1 := gs 1 z' sl1; replace sl2 := gs 2 z' sl2; replace sl3 := gs 3 z' sl3; replace sl4 := gs 4 z' sl4; replace sl5 := gs 5 z' sl5; replace sl12 := gs 12 z' sl12; replace sl13 := gs 13 z' sl13; have sl19 := gu 19 z'; have sl20 := gu 20 z'; have sl21 := gu 21 z'; have sl22 := gu 22 z'; clear z' sl18; refine listF_nil ?_
   repeat ((fail_if_success refine stp ?_); with_reducible go_step)
   exact ⟨rfl, _, rfl, (by rw [sl22]; simp at h18'; first | (simp [h18']; done) | (simp; omega)), (sl1.trans hj10_1.out.symm), (sl2.trans hj10_2.out.symm), (sl3.trans hj10_3.out.symm), (sl4.trans hj10_4.out.symm), (sl5.trans hj10_5.out.symm), (sl12.trans hj10_12.out.symm), (sl13.trans hj10_13.out.symm), HL11.out⟩
  ·skip
   have h18' := h18
   refine pn false ?_; refine pn false ?_; refine pn false ?_; refine pl ?_; refine listF_abs (fun s14 z' => ?_); replace sl1 := gs 1 z' sl1; replace sl2 := gs 2 z' sl2; replace sl3 := gs 3 z' sl3; replace sl4 := gs 4 z' sl4; replace sl5 := gs 5 z' sl5; replace sl12 := gs 12 z' sl12; replace sl13 := gs 13 z' sl13; have sl22 := gu 22 z'; clear z' sl18; refine listF_nil ?_
   repeat ((fail_if_success refine stp ?_); with_reducible go_step)
   exact ⟨rfl, _, rfl, (by rw [sl22]; simp at h18'; first | (simp [h18']; done) | (simp; omega)), (sl1.trans hj10_1.out.symm), (sl2.trans hj10_2.out.symm), (sl3.trans hj10_3.out.symm), (sl4.trans hj10_4.out.symm), (sl5.trans hj10_5.out.symm), (sl12.trans hj10_12.out.symm), (sl13.trans hj10_13.out.symm), HL11.out⟩
 ·skip
  rintro s15 w16 ⟨sl22, e1, e2, e3, e4, e5, e12, e13, hb17⟩; replace sl1 := e1.trans sl1; clear e1 hj10_1; replace sl2 := e2.trans sl2; clear e2 hj10_2; replace sl3 := e3.trans sl3; clear e3 hj10_3; replace sl4 := e4.trans sl4; clear e4 hj10_4; replace sl5 := e5.trans sl5; clear e5 hj10_5; replace sl12 := e12.trans sl12; clear e12 hj10_12; replace sl13 := e13.trans sl13; clear e13 hj10_13; clear qb5; replace kb5 := kb5.oldB hb17 (by first | (simp; done) | (simp; omega)); replace HL9 := hid (HL9.out.more hb17 (by simp; try omega)); replace hO12 := Own.oldB hO12 hb17 (fun g hg => by have n0 := (World.ownsRow.lt hO12 g hg).1; first | (simp; done) | (simp; omega)); replace HB := hid (HB.out.more hb17 (by simp; try omega)); clear hb17; have qb5 := kb5.1
  repeat ((fail_if_success refine stp ?_); with_reducible go_step)
  refine cond_E sl22 (by decide) ?_ ?_ <;> (clear sl22; intro h22 sl22)
  ·skip
   have Hc := hid (show ¬ (can < 0 ∨ u < can) by have h := h22; simp at h; omega); have hlh := hpi.out.2.2.1
   repeat ((fail_if_success refine stp ?_); with_reducible go_step)
   refine region_F ?_; refine pl ?_; refine listF_abs (fun s18 z' => ?_); replace sl1 := gs 1 z' sl1; replace sl2 := gs 2 z' sl2; replace sl3 := gs 3 z' sl3; replace sl4 := gs 4 z' sl4; replace sl5 := gs 5 z' sl5; replace sl12 := gs 12 z' sl12; replace sl13 := gs 13 z' sl13; have sl14 := gu 14 z'; clear z' sl22; refine listF_nil ?_
   repeat ((fail_if_success refine stp ?_); with_reducible go_step)
   refine region_F ?_; refine pl ?_; have w24 : IntKind.i64.wrap ((a1 : Int) - 1 + 1) = (a1 : Int) := (IntWalk.i64_in _ (by omega)).trans (by omega); have w25 : IntKind.i64.wrap (a1 : Int) = (a1 : Int) := IntWalk.i64_in _ (by omega); refine pl ?_; refine pl ?_; refine listF_abs (fun s19 z' => ?_); replace sl1 := gs 1 z' sl1; replace sl2 := gs 2 z' sl2; replace sl3 := gs 3 z' sl3; replace sl4 := gs 4 z' sl4; replace sl5 := gs 5 z' sl5; replace sl12 := gs 12 z' sl12; replace sl14 := gs 14 z' sl14; have sl15 := gu 15 z'; clear z' sl13; refine listF_nil ?_
   repeat ((fail_if_success refine stp ?_); with_reducible go_step)
   have hc1_1 := hid sl1; have hc1_2 := hid sl2; have hc1_3 := hid sl3; have hc1_4 := hid sl4; have hc1_5 := hid sl5; have hc1_12 := hid sl12; refine loop_F (n := 59) (fun kJ sJ wJ => ∃ (i : Nat), kJ = l.length - i ∧ sJ 14 = .int .i64 (lastIn l f can a1 i) ∧ sJ 15 = .int .i64 (i : Int) ∧ sJ 1 = s19 1 ∧ sJ 2 = s19 2 ∧ sJ 3 = s19 3 ∧ sJ 4 = s19 4 ∧ sJ 5 = s19 5 ∧ sJ 12 = s19 12 ∧ OldB [] w16 wJ ∧ a1 ≤ i ∧ i ≤ l.length) ⟨a1, rfl, (by rw [sl14, lastIn_start _ _ _ _ _ (Nat.le_refl _)]), (by rw [sl15]; first | done | rw [w25]), rfl, rfl, rfl, rfl, rfl, rfl, OldB.refl _ _, Nat.le_refl _, hlh⟩ ?_; clear sl14 sl15; rintro kJ s20 w21 ⟨i, rfl, sl14, sl15, e1, e2, e3, e4, e5, e12, hb22, hai, hil⟩; replace sl1 := e1.trans sl1; clear e1; replace sl2 := e2.trans sl2; clear e2; replace sl3 := e3.trans sl3; clear e3; replace sl4 := e4.trans sl4; clear e4; replace sl5 := e5.trans sl5; clear e5; replace sl12 := e12.trans sl12; clear e12
   have hoJ := hb22; clear qb5; replace kb5 := kb5.oldB hb22 (by first | (simp; done) | (simp; omega)); replace HL9 := hid (HL9.out.more hb22 (by simp; try omega)); replace hO12 := Own.oldB hO12 hb22 (fun g hg => by have n0 := (World.ownsRow.lt hO12 g hg).1; first | (simp; done) | (simp; omega)); replace HB := hid (HB.out.more hb22 (by simp; try omega)); clear hb22; have qb5 := kb5.1; have HoJ := hid hoJ; clear hoJ; have HL23 := HoJ; clear HoJ
   repeat ((fail_if_success refine stp ?_); with_reducible go_step)
   refine region_F ?_
   iterate 4 refine pl ?_
   refine listF_abs (fun s24 z' => ?_); replace sl1 := gs 1 z' sl1; replace sl2 := gs 2 z' sl2; replace sl3 := gs 3 z' sl3; replace sl4 := gs 4 z' sl4; replace sl5 := gs 5 z' sl5; replace sl12 := gs 12 z' sl12; replace sl14 := gs 14 z' sl14; replace sl15 := gs 15 z' sl15; have sl28 := gu 28 z'; clear z'; refine listF_nil ?_
   repeat ((fail_if_success refine stp ?_); with_reducible go_step)
   refine cond_E sl28 (by decide) ?_ ?_ <;> (clear sl28; intro h28 sl28)
   ·skip
    have hlt : i < l.length := by simpa using h28
    obtain ⟨b, off, rfl, hbs, c0⟩ := RdInts.ne (Rd.oldB HRn.out HB.out (by simp)) hlt
    have hlt' : (i : Int) < l.length := by omega
    have Hls := hid (lastIn_succ (f := f) (c := can) hai hlt); have wii : IntKind.i64.wrap ((i : Int) + 1) = (i : Int) + 1 := IntWalk.i64_in _ (by omega)
    repeat ((fail_if_success refine stp ?_); with_reducible go_step)
    refine region_F ?_
    iterate 6 refine pl ?_
    refine listF_step rfl (fun K' hK => ?_); unfold opF; go_simp; refine (rin_any l[i] f can _).mono ?_; rintro e w' ⟨rfl, rfl⟩; refine ⟨_, rfl, hK _ _ ?_⟩; clear hK K'; refine listF_abs (fun s26 z' => ?_); replace sl1 := gs 1 z' sl1; replace sl2 := gs 2 z' sl2; replace sl3 := gs 3 z' sl3; replace sl4 := gs 4 z' sl4; replace sl5 := gs 5 z' sl5; replace sl12 := gs 12 z' sl12; replace sl14 := gs 14 z' sl14; replace sl15 := gs 15 z' sl15; have sl37 := gu 37 z'; clear z' sl28; refine listF_nil ?_
    repeat ((fail_if_success refine stp ?_); with_reducible go_step)
    refine cond_E sl37 (by decide) ?_ ?_ <;> (clear sl37; intro h37 sl37)
    ·skip
     have Hl1 := hid (show lastIn l f can a1 (i + 1) = (i : Int) by rw [Hls.out, if_pos h37])
     repeat ((fail_if_success refine stp ?_); with_reducible go_step)
     refine region_F ?_; refine pl ?_; refine pl ?_; refine listF_abs (fun s27 z' => ?_); replace sl1 := gs 1 z' sl1; replace sl2 := gs 2 z' sl2; replace sl3 := gs 3 z' sl3; replace sl4 := gs 4 z' sl4; replace sl5 := gs 5 z' sl5; replace sl12 := gs 12 z' sl12; replace sl14 := gu 14 z'; replace sl15 := gs 15 z' sl15; clear z' sl37; refine listF_nil ?_
     repeat ((fail_if_success refine stp ?_); with_reducible go_step)
     refine region_F ?_
     iterate 3 refine pl ?_
     refine listF_abs (fun s28 z' => ?_); replace sl1 := gs 1 z' sl1; replace sl2 := gs 2 z' sl2; replace sl3 := gs 3 z' sl3; replace sl4 := gs 4 z' sl4; replace sl5 := gs 5 z' sl5; replace sl12 := gs 12 z' sl12; replace sl14 := gs 14 z' sl14; replace sl15 := gu 15 z'; clear z'; refine listF_nil ?_
     repeat ((fail_if_success refine stp ?_); with_reducible go_step)
     refine ⟨_, _, rfl, ?_, i + 1, rfl, (by rw [sl14, Hl1.out]), (by first | (with_reducible exact sl15) | (rw [sl15]; (with_reducible go_num); done) | (rw [sl15, IntWalk.i64_in] <;> first | ((with_reducible go_num); done) | omega) | (rw [sl15]; go_num; done) | (rw [sl15]; simp; done) | (rw [sl15]; simp; omega)), (sl1.trans hc1_1.out.symm), (sl2.trans hc1_2.out.symm), (sl3.trans hc1_3.out.symm), (sl4.trans hc1_4.out.symm), (sl5.trans hc1_5.out.symm), (sl12.trans hc1_12.out.symm), HL23.out, by omega, by omega⟩
     omega
    ·skip
     have Hl1 := hid (show lastIn l f can a1 (i + 1) = lastIn l f can a1 i by rw [Hls.out, if_neg (by rw [h37]; decide)])
     repeat ((fail_if_success refine stp ?_); with_reducible go_step)
     refine region_F ?_
     iterate 3 refine pl ?_
     refine listF_abs (fun s29 z' => ?_); replace sl1 := gs 1 z' sl1; replace sl2 := gs 2 z' sl2; replace sl3 := gs 3 z' sl3; replace sl4 := gs 4 z' sl4; replace sl5 := gs 5 z' sl5; replace sl12 := gs 12 z' sl12; replace sl14 := gs 14 z' sl14; replace sl15 := gu 15 z'; clear z' sl37; refine listF_nil ?_
     repeat ((fail_if_success refine stp ?_); with_reducible go_step)
     refine ⟨_, _, rfl, ?_, i + 1, rfl, (by rw [sl14, Hl1.out]), (by first | (with_reducible exact sl15) | (rw [sl15]; (with_reducible go_num); done) | (rw [sl15, IntWalk.i64_in] <;> first | ((with_reducible go_num); done) | omega) | (rw [sl15]; go_num; done) | (rw [sl15]; simp; done) | (rw [sl15]; simp; omega)), (sl1.trans hc1_1.out.symm), (sl2.trans hc1_2.out.symm), (sl3.trans hc1_3.out.symm), (sl4.trans hc1_4.out.symm), (sl5.trans hc1_5.out.symm), (sl12.trans hc1_12.out.symm), HL23.out, by omega, by omega⟩
     omega
   ·skip
    have hge : ¬ i < l.length := by simpa using h28
    have Hie := hid (show i = l.length by omega); have sl14' := sl14; rw [Hie.out] at sl14'; clear sl14; have sl14 := sl14'; clear sl14'
    repeat ((fail_if_success refine stp ?_); with_reducible go_step)
    clear HL23; clear hc1_1 hc1_2 hc1_3 hc1_4 hc1_5 hc1_12; refine region_F ?_; refine pl ?_; refine pl ?_; refine listF_abs (fun s30 z' => ?_); replace sl1 := gs 1 z' sl1; replace sl3 := gs 3 z' sl3; replace sl4 := gs 4 z' sl4; replace sl5 := gs 5 z' sl5; replace sl12 := gs 12 z' sl12; replace sl14 := gs 14 z' sl14; have sl40 := gu 40 z'; clear z' sl2 sl15 sl28; refine listF_nil ?_
    repeat ((fail_if_success refine stp ?_); with_reducible go_step)
    refine cond_E sl40 (by decide) ?_ ?_ <;> (clear sl40; intro h40 sl40)
    ·skip
     have Hd := hid (hpi.out.down Hc.out (by simpa using h40))
     repeat ((fail_if_success refine stp ?_); with_reducible go_step)
     refine region_F ?_; refine pl ?_; refine pl ?_; refine listF_abs (fun s31 z' => ?_); have sl10 := gu 10 z'; have sl11 := gu 11 z'; clear z' sl1 sl3 sl4 sl5 sl12 sl14 sl40; refine listF_nil ?_
     repeat ((fail_if_success refine stp ?_); with_reducible go_step)
     refine ret_F _ (res_tt Try.results65 ((getD_F (by decide)).trans sl10) ((getD_F (by decide)).trans sl11)) ?_; exact ⟨none, 0, by rw [Hd.out]; rfl, by rw [Hd.out]; exact .inl rfl, HB.out.toBelow, (fun b hb => by cases hb)⟩
    ·skip
     obtain ⟨n1, j, rfl, hlj, hj, hpn⟩ := hpi.out.next Hc.out (by simpa using h40); have Hpn := hid hpn; rw [hlj] at sl14; clear hlj hpn
     have hj' : (j : Int) < l.length := by omega
     have Hgj := hid (show l.getD j 0 = l[j] from getD_get hj 0); have hol := hpi.out.2.2.2.1; clear Hie
     repeat ((fail_if_success refine stp ?_); with_reducible go_step)
     refine region_F ?_; refine pl ?_; refine pl ?_; refine pas (fun w32 B43 hB kb43' hb33 => ?_); have gb43 := HB.out.gB hB; have lHL9_b43 := HL9.out.gB hB; have ob5_b43 := oB qb5 hB
     have nhO12_b43 : ∀ g, v12.ownBlock = some g → g < B43 := fun g hg => by have := (World.ownsRow.lt hO12 g hg).2; omega
     have eb43 := eB hB; clear hB; clear qb5; replace kb5 := kb5.at hb33; replace HL9 := hid (HL9.out.below hb33); replace hO12 := Own.at hO12 hb33; replace HB := hid (HB.out.below hb33); clear hb33; have qb5 := kb5.1; have kb43 := kb43'; clear kb43'; have qb43 := kb43.1
     have ab5 : v12.ownBlock ≠ some B5 := fun e => by have n0 := (World.ownsRow.lt hO12 _ e).1; omega
     have ab43 : v12.ownBlock ≠ some B43 := fun e => by have n0 := (World.ownsRow.lt hO12 _ e).1; have n9 := nhO12_b43 _ e; omega
     have hzz := HB.out.size; refine listF_step rfl (fun K' hK => ?_); refine opF_app (d := 44) rfl (by decide) (.tmp 41) (.tmp 43) _ rfl 3 i1 _ 8 Try.underlying47 hi1 hz1 hy1 hx1 rfl (by decide) (fun _ => rfl) int_one NB v12 out [(j : Int)] (some ⟨B43, 0, none⟩) 1 (by go_simp) (by go_simp) hO12 (Cells.rd (f := int1) (m := 1) (l := [(j : Int)]) (fun _ => rfl) kb43) (by unfold maxLen; simp; omega) (by simp; omega) (by omega) (fun v44 w34 hO' hG hV => hK _ _ ?_); clear hK K' hzz; clear qb5 qb43; replace kb5 := kb5.grown hG ab5; clear ab5; replace kb43 := kb43.grown hG ab43; clear ab43; replace HL9 := hid (HL9.out.grown hG (fun k hk => .inl (by have := (World.ownsRow.lt hO12 k hk).1; omega))); replace HB := hid (HB.out.grown hG (fun k hk => .inl (by have := (World.ownsRow.lt hO12 k hk).1; omega))); clear hO12; have hO12 := hO'; clear hO' hG hV; clear nhO12_b43; have qb5 := kb5.1; have qb43 := kb43.1
     iterate 3 refine pl ?_
     refine listF_abs (fun s35 z' => ?_); replace sl1 := gs 1 z' sl1; replace sl3 := gs 3 z' sl3; replace sl4 := gs 4 z' sl4; replace sl5 := gs 5 z' sl5; replace sl12 := gu 12 z'; have sl13 := gu 13 z'; replace sl14 := gs 14 z' sl14; clear z' sl40; refine listF_nil ?_
     repeat ((fail_if_success refine stp ?_); with_reducible go_step)
     obtain ⟨b, off, rfl, hbs, c0⟩ := RdInts.ne (Rd.oldB HRn.out HB.out (by simp)) hj
     ·skip
      have cb5_0 := kb5.cell 0 rfl; have cb5_1 := kb5.cell 1 rfl; have cb5_2 := kb5.cell 2 rfl; have cb5_3 := kb5.cell 3 rfl; have cb43_0 := kb43.cell 0 rfl; refine regionQ_F (Below w34.heap.size w34) (by kernel_rfl) (by kernel_rfl) (Below.refl _ _).drew ?_
      iterate 10 refine lq ?_
      refine listQ_step (v := ?_) rfl ?_ ?_; rotate_left
      · focus (intro wq hwq; obtain ⟨hcq, hfq⟩ := bcell hwq; go_simp; have hQ := callQ (rfails_any k a c (newSpan k) (l[j]) _ (Rd.oldB HR.out (HB.out.below hwq) (by simp)) HK.out (new_in HK.out) (Hnb.out _ (List.getElem_mem hj))) hwq; exact hQ)
      refine lq ?_; refine lq ?_; refine listQ_abs (fun s38 z' => ?_); replace sl1 := gs 1 z' sl1; have sl2 := gu 2 z'; replace sl3 := gs 3 z' sl3; replace sl4 := gs 4 z' sl4; replace sl5 := gs 5 z' sl5; replace sl12 := gs 12 z' sl12; replace sl13 := gs 13 z' sl13; clear z' sl14; refine listQ_nil ?_; intro w36 hb37; clear cb43_0 cb5_0 cb5_1 cb5_2 cb5_3; clear qb5 qb43; replace kb5 := kb5.at hb37; replace kb43 := kb43.at hb37; replace HL9 := hid (HL9.out.below hb37); replace hO12 := Own.at hO12 hb37; replace HB := hid (HB.out.below hb37); clear hb37; have qb5 := kb5.1; have qb43 := kb43.1
      repeat ((fail_if_success refine stp ?_); with_reducible go_step)
      refine ⟨_, _, rfl, ?_, n1, j + 1, (canAt k (l.getD j 0)), v44, (out ++ [(j : Int)]), rfl, (by rw [sl2, Hgj.out]; rfl), (by first | (with_reducible exact sl12) | (rw [sl12]; (with_reducible go_num); done) | (rw [sl12, IntWalk.i64_in] <;> first | ((with_reducible go_num); done) | omega) | (rw [sl12]; go_num; done) | (rw [sl12]; simp; done) | (rw [sl12]; simp; omega)), (by first | (with_reducible exact sl13) | (rw [sl13]; (with_reducible go_num); done) | (rw [sl13, IntWalk.i64_in] <;> first | ((with_reducible go_num); done) | omega) | (rw [sl13]; go_num; done) | (rw [sl13]; simp; done) | (rw [sl13]; simp; omega)), (sl1.trans hc0_1.out.symm), (sl3.trans hc0_3.out.symm), (sl4.trans hc0_4.out.symm), (sl5.trans hc0_5.out.symm), HL9.out, Hpn, hO12⟩
      omega
  ·skip
   have Hc := hid (show can < 0 ∨ u < can by have h := h22; simp at h; rcases Int.lt_or_le can 0 with h0 | h0; exact .inl h0; exact .inr (h h0))
   repeat ((fail_if_success refine stp ?_); with_reducible go_step)
   clear HL9; clear hc0_1 hc0_3 hc0_4 hc0_5; refine region_F ?_
   iterate 3 refine pl ?_
   refine listF_abs (fun s39 z' => ?_); have sl10 := gu 10 z'; have sl11 := gu 11 z'; clear z' sl1 sl2 sl3 sl4 sl5 sl12 sl13 sl22; refine listF_nil ?_
   repeat ((fail_if_success refine stp ?_); with_reducible go_step)
   refine ret_F _ (res_tt Try.results65 ((getD_F (by decide)).trans sl10) ((getD_F (by decide)).trans sl11)) ?_; have Hd := hid (hpi.out.done Hc.out); obtain ⟨a12, c12, rfl, hr12, hn12⟩ := Own.slice (f := int1) (m := 1) (fun _ => rfl) hO12; exact ⟨a12, c12, by rw [Hd.out]; rfl, by rw [Hd.out]; exact hr12, HB.out.toBelow, (fun b hb => by have := hn12 b hb; omega)⟩
end

section
open Go.RowKit


/-- no number is less than the one ahead of it -/
def ndec (l : List Int) : Bool := (List.range (l.length - 1)).all fun i => decide (l.getD i 0 ≤ l.getD (i + 1) 0)
/-- some number equals the one ahead of it -/
def dups (l : List Int) : Bool := (List.range (l.length - 1)).any fun i => decide (l.getD i 0 = l.getD (i + 1) 0)
theorem ndec_iff {l : List Int} : ndec l = true ↔ ∀ i (h : i + 1 < l.length), l[i] ≤ l[i + 1] := by
  unfold ndec; rw [List.all_eq_true]
  constructor
  · intro h i hi
    have := h i (List.mem_range.2 (by omega)); rw [getD_get (show i < l.length by omega), getD_get hi] at this
    simpa using this
  · intro h i hi
    have hi' := List.mem_range.1 hi; rw [getD_get (show i < l.length by omega), getD_get (show i + 1 < l.length by omega)]
    simpa using h i (by omega)
theorem dups_iff {l : List Int} : dups l = true ↔ ∃ i, ∃ h : i + 1 < l.length, l[i] = l[i + 1] := by
  unfold dups; rw [List.any_eq_true]
  constructor
  · rintro ⟨i, hi, h⟩
    have hi' := List.mem_range.1 hi; rw [getD_get (show i < l.length by omega), getD_get (show i + 1 < l.length by omega)] at h; exact ⟨i, by omega, by simpa using h⟩
  · rintro ⟨i, hi, h⟩
    refine ⟨i, List.mem_range.2 (by omega), ?_⟩; rw [getD_get (show i < l.length by omega), getD_get hi]
    simpa using h

set_option maxRecDepth 100000 in
set_option maxHeartbeats 1000000 in
theorem isnan_any (x : Int) (w : World) :
    Calls Try.prog 87 #[.int .i64 x] w (fun e w' => e = .returned (.bool false) ∧ w = w') := by
 refine enter_F Try.func87 rfl Try.ntmps87 (by simp) ?_
 intro s0 hs; have sl0 : s0 0 = .int .i64 x := hs 0 (by simp); clear hs; have HB := hid (OldB.refl [] w)
 repeat ((fail_if_success refine stp ?_); with_reducible go_step)
 refine region_F ?_; refine pl ?_; refine listF_abs (fun s1 z' => ?_); replace sl0 := gs 0 z' sl0; clear z'; refine listF_nil ?_
 repeat ((fail_if_success refine stp ?_); with_reducible go_step)
 refine region_F ?_
 iterate 4 refine pl ?_
 refine listF_abs (fun s2 z' => ?_); have sl2 := gu 2 z'; clear z' sl0; refine listF_nil ?_
 repeat ((fail_if_success refine stp ?_); with_reducible go_step)
 refine ret_F _ (res_t Try.results87 ((getD_F (by decide)).trans sl2)) ?_; exact ⟨rfl, rfl⟩

set_option maxRecDepth 100000 in
set_option maxHeartbeats 1000000 in
theorem less_any (x y : Int) (w : World) :
    Calls Try.prog 79 #[.int .i64 x, .int .i64 y] w (fun e w' => e = .returned (.bool (decide (x < y))) ∧ w = w') := by
 refine enter_F Try.func79 rfl Try.ntmps79 (by simp) ?_
 intro s0 hs; have sl0 : s0 0 = .int .i64 x := hs 0 (by simp); have sl1 : s0 1 = .int .i64 y := hs 1 (by simp); clear hs; have HB := hid (OldB.refl [] w)
 repeat ((fail_if_success refine stp ?_); with_reducible go_step)
 refine region_F ?_; refine pl ?_; refine listF_abs (fun s1 z' => ?_); replace sl0 := gs 0 z' sl0; replace sl1 := gs 1 z' sl1; clear z'; refine listF_nil ?_
 repeat ((fail_if_success refine stp ?_); with_reducible go_step)
 refine region_F ?_; refine pl ?_; refine listF_step rfl (fun K' hK => ?_); unfold opF; go_simp; refine (isnan_any x _).mono ?_; rintro e w' ⟨rfl, rfl⟩; refine ⟨_, rfl, hK _ _ ?_⟩; clear hK K'; refine pl ?_
 refine pn false ?_; refine pn false ?_; refine pn false ?_; refine pl ?_; refine pl ?_
 iterate 3 refine py ?_
 refine pl ?_; refine pl ?_; refine listF_abs (fun s3 z' => ?_); have sl4 := gu 4 z'; clear z' sl0 sl1; refine listF_nil ?_
 repeat ((fail_if_success refine stp ?_); with_reducible go_step)
 refine ret_F _ (res_t Try.results79 ((getD_F (by decide)).trans sl4)) ?_; exact ⟨rfl, rfl⟩

set_option maxRecDepth 100000 in
set_option maxHeartbeats 1000000 in
theorem issorted_any (al : Option Addr) (cl : Nat) (l : List Int) (w : World) (hRl : RdInts w al l) (hll : l.length ≤ 1000) :
    Calls Try.prog 61 #[.slice al l.length cl] w (fun e w' => e = .returned (.bool (ndec l)) ∧ Below w.heap.size w w') := by
 have HRl := hid hRl; clear hRl
 refine enter_F Try.func61 rfl Try.ntmps61 (by simp) ?_
 intro s0 hs; have sl0 : s0 0 = .slice al l.length cl := hs 0 (by simp); clear hs; have HB := hid (OldB.refl [] w)
 repeat ((fail_if_success refine stp ?_); with_reducible go_step)
 refine region_F ?_; refine pl ?_; refine listF_abs (fun s1 z' => ?_); replace sl0 := gs 0 z' sl0; clear z'; refine listF_nil ?_
 repeat ((fail_if_success refine stp ?_); with_reducible go_step)
 refine region_F ?_; refine pl ?_; refine pl ?_; have w0 : IntKind.i64.wrap ((l.length : Int) - 1) = (l.length : Int) - 1 := IntWalk.i64_in _ (by omega); refine pl ?_; refine pl ?_; refine listF_abs (fun s2 z' => ?_); replace sl0 := gs 0 z' sl0; have sl3 := gu 3 z'; clear z'; refine listF_nil ?_
 repeat ((fail_if_success refine stp ?_); with_reducible go_step)
 have hc0_0 := hid sl0; refine loop_F (n := 21) (fun kJ sJ wJ => ∃ (i : Nat), kJ = i + 1 ∧ sJ 3 = .int .i64 ((i : Int) - 1) ∧ sJ 0 = s2 0 ∧ OldB [] w wJ ∧ i ≤ l.length ∧ (Hid (∀ j (h : j + 1 < l.length), i ≤ j + 1 → l[j] ≤ l[j + 1]))) ⟨l.length, rfl, (by first | exact sl3 | (rw [sl3]; go_num) | (rw [sl3]; rfl)), rfl, OldB.refl _ _, Nat.le_refl _, hid (fun j h1 h2 => by omega)⟩ ?_; clear sl3; rintro kJ s3 w4 ⟨i, rfl, sl3, e0, hb5, hil, hnd⟩; replace sl0 := e0.trans sl0; clear e0; have hoJ := hb5; replace HB := hid (HB.out.more hb5 (by simp; try omega)); clear hb5; have HoJ := hid hoJ; clear hoJ; have HL6 := HoJ; clear HoJ
 repeat ((fail_if_success refine stp ?_); with_reducible go_step)
 refine region_F ?_; refine pl ?_; refine pl ?_; refine listF_abs (fun s7 z' => ?_); replace sl0 := gs 0 z' sl0; replace sl3 := gs 3 z' sl3; have sl8 := gu 8 z'; clear z'; refine listF_nil ?_
 repeat ((fail_if_success refine stp ?_); with_reducible go_step)
 refine cond_E sl8 (by decide) ?_ ?_ <;> (clear sl8; intro h8 sl8)
 ·skip
  obtain ⟨m, rfl⟩ : ∃ m, i = m + 2 := ⟨i - 2, by simp at h8; omega⟩
  have sl3' : s7 3 = .int .i64 ((m : Int) + 1) := by rw [sl3]; congr 1; omega
  clear sl3; have sl3 := sl3'; clear sl3'
  have hlt : m + 1 < l.length := by omega
  have hlt2 : m < l.length := by omega
  have hlt' : (m : Int) + 1 < l.length := by omega
  have hlt2' : (m : Int) < l.length := by omega
  have e1 : ((m : Int) + 1).toNat = m + 1 := by omega
  obtain ⟨b, off, rfl, hbs, c0⟩ := RdInts.ne (Rd.oldB HRl.out HB.out (by simp)) hlt; obtain ⟨b', off', hab, _, c1⟩ := RdInts.ne (Rd.oldB HRl.out HB.out (by simp)) hlt2
  cases hab
  have w1 : IntKind.i64.wrap ((m : Int) + 1 - 1) = (m : Int) := (IntWalk.i64_in _ (by omega)).trans (by omega); have w2 : IntKind.i64.wrap (m : Int) = (m : Int) := IntWalk.i64_in _ (by omega)
  repeat ((fail_if_success refine stp ?_); with_reducible go_step)
  refine regionQ_F (Below w4.heap.size w4) (by kernel_rfl) (by kernel_rfl) (Below.refl _ _).drew ?_
  iterate 9 refine lq ?_
  refine listQ_step (v := ?_) rfl ?_ ?_; rotate_left
  · focus (intro wq hwq; obtain ⟨hcq, hfq⟩ := bcell hwq; go_simp; have hQ := callQs (less_any l[m + 1] l[m] _) hwq; exact hQ)
  refine listQ_nil ?_; intro w8 hb9; replace HL6 := hid (HL6.out.below hb9); replace HB := hid (HB.out.below hb9); clear hb9
  repeat ((fail_if_success refine stp ?_); with_reducible go_step)
  refine wp_abs (fun s10 z' => ?_); replace sl0 := gs 0 z' sl0; replace sl3 := gs 3 z' sl3; have sl20 := gu 20 z'; clear z' sl8
  refine cond_E sl20 (by decide) ?_ ?_ <;> (clear sl20; intro h20 sl20)
  ·skip
   have Hnd := hid (show ndec l = false by cases hn : ndec l with | false => rfl | true => have h1 := ndec_iff.1 hn m hlt; simp at h20; omega)
   repeat ((fail_if_success refine stp ?_); with_reducible go_step)
   refine region_F ?_; refine pl ?_; refine listF_abs (fun s11 z' => ?_); have sl2 := gu 2 z'; clear z' sl0 sl3 sl20; refine listF_nil ?_
   repeat ((fail_if_success refine stp ?_); with_reducible go_step)
   refine ret_F _ (res_t Try.results61 ((getD_F (by decide)).trans sl2)) ?_; exact ⟨by rw [Hnd.out], HB.out.toBelow⟩
  ·skip
   have Hle := hid (show l[m] ≤ l[m + 1] by simpa using h20)
   repeat ((fail_if_success refine stp ?_); with_reducible go_step)
   refine region_F ?_
   iterate 3 refine pl ?_
   refine listF_abs (fun s12 z' => ?_); replace sl0 := gs 0 z' sl0; replace sl3 := gu 3 z'; clear z' sl20; refine listF_nil ?_
   repeat ((fail_if_success refine stp ?_); with_reducible go_step)
   refine ⟨_, _, rfl, ?_, m + 1, rfl, (by rw [sl3]; congr 1; (try simp); (try omega)), (sl0.trans hc0_0.out.symm), HL6.out, by omega, hid (fun j h1 h2 => by rcases Nat.lt_or_ge j (m + 1) with h | h <;> first | exact hnd.out j h1 (by omega) | (have e : j = m := (by omega); subst e; exact Hle.out))⟩
   omega
 ·skip
  have Hnd := hid (show ndec l = true from ndec_iff.2 fun j h => hnd.out j h (by simp at h8; omega))
  repeat ((fail_if_success refine stp ?_); with_reducible go_step)
  clear HL6; clear hc0_0; refine region_F ?_; refine pl ?_; refine listF_abs (fun s13 z' => ?_); have sl2 := gu 2 z'; clear z' sl0 sl3 sl8; refine listF_nil ?_
  repeat ((fail_if_success refine stp ?_); with_reducible go_step)
  refine ret_F _ (res_t Try.results61 ((getD_F (by decide)).trans sl2)) ?_; exact ⟨by rw [Hnd.out], HB.out.toBelow⟩

set_option maxRecDepth 100000 in
set_option maxHeartbeats 1000000 in
theorem cloneInt_none (c : Nat) (l : List Int) (w : World) (hl : l.length ≤ 1000) (hR : RdInts w none l) :
    Calls Try.prog 63 #[.slice none l.length c] w (fun e w' => ∃ v, e = .returned v ∧ Own int1 1 3 w.heap.size w' v l ∧ Below w.heap.size w w') := by
 obtain ⟨i0, hi0, hz0, hz1, hz2⟩ := info_parts info_int; have HR := hid hR; clear hR
 have hnil : ∀ w, (binOp .eql 47 (.slice none l.length c) (.slice none 0 0)).run Try.prog w = .ok (.bool true) w := fun w => Lib.run_eql_slice_nil w _ _ _ _ _ _ _ Try.underlying47
 refine enter_F Try.func63 rfl Try.ntmps63 (by simp) ?_
 intro s0 hs; have sl0 : s0 0 = .slice none l.length c := hs 0 (by simp); clear hs; have HB := hid (OldB.refl [] w)
 repeat ((fail_if_success refine stp ?_); with_reducible go_step)
 refine region_F ?_; refine pl ?_; refine listF_abs (fun s1 z' => ?_); replace sl0 := gs 0 z' sl0; clear z'; refine listF_nil ?_
 repeat ((fail_if_success refine stp ?_); with_reducible go_step)
 refine region_F ?_; refine pl ?_; refine pl ?_; refine listF_abs (fun s2 z' => ?_); replace sl0 := gs 0 z' sl0; have sl4 := gu 4 z'; clear z'; refine listF_nil ?_
 repeat ((fail_if_success refine stp ?_); with_reducible go_step)
 refine cond_t ?_
 repeat ((fail_if_success refine stp ?_); with_reducible go_step)
 refine region_F ?_; refine pl ?_; refine listF_abs (fun s3 z' => ?_); have sl2 := gu 2 z'; clear z' sl0 sl4; refine listF_nil ?_
 repeat ((fail_if_success refine stp ?_); with_reducible go_step)
 refine ret_F _ (res_t Try.results63 ((getD_F (by decide)).trans sl2)) ?_
 have hl0 : l = [] := by rcases HR.out with h | ⟨b, o, h, _⟩; exact h; cases h
 exact ⟨_, rfl, by rw [hl0]; exact Own.nil _ _ _ _ _, HB.out.toBelow⟩

set_option maxRecDepth 100000 in
set_option maxHeartbeats 1000000 in
theorem cloneInt_some (p : Addr) (c : Nat) (l : List Int) (w : World) (hl : l.length ≤ 1000) (hR : RdInts w (some p) l) :
    Calls Try.prog 63 #[.slice (some p) l.length c] w (fun e w' => ∃ v, e = .returned v ∧ Own int1 1 3 w.heap.size w' v l ∧ Below w.heap.size w w') := by
 obtain ⟨i0, hi0, hz0, hz1, hz2⟩ := info_parts info_int; have HR := hid hR; clear hR
 have hnil : ∀ w, (binOp .eql 47 (.slice (some p) l.length c) (.slice none 0 0)).run Try.prog w = .ok (.bool false) w := fun w => Lib.run_eql_slice_nil w _ _ _ _ _ _ _ Try.underlying47
 refine enter_F Try.func63 rfl Try.ntmps63 (by simp) ?_
 intro s0 hs; have sl0 : s0 0 = .slice (some p) l.length c := hs 0 (by simp); clear hs; have HB := hid (OldB.refl [] w)
 repeat ((fail_if_success refine stp ?_); with_reducible go_step)
 refine region_F ?_; refine pl ?_; refine listF_abs (fun s1 z' => ?_); replace sl0 := gs 0 z' sl0; clear z'; refine listF_nil ?_
 repeat ((fail_if_success refine stp ?_); with_reducible go_step)
 refine region_F ?_; refine pl ?_; refine pl ?_; refine listF_abs (fun s2 z' => ?_); replace sl0 := gs 0 z' sl0; have sl4 := gu 4 z'; clear z'; refine listF_nil ?_
 repeat ((fail_if_success refine stp ?_); with_reducible go_step)
 refine cond_f ?_
 repeat ((fail_if_success refine stp ?_); with_reducible go_step)
 refine region_F ?_; refine listF_step rfl (fun K' hK => ?_); unfold opF; go_simp; refine hK _ _ ?_; clear hK K'; refine listF_absw ?_; intro w3 hw'
 have hO5 : Own int1 1 3 w.heap.size w3 (.slice (some ⟨w.heap.size, 0, none⟩) 0 0) [] := by rw [hw']; exact Own.lit (l := ([] : List Int)) (Nat.le_refl _) (by unfold maxLen; simp) rfl (fun _ => rfl)
 have hb4 : Below w.heap.size w w3 := by rw [hw']; exact below_alloc1 _ _
 clear hw'; replace HB := hid (HB.out.below hb4); clear hb4; refine pl ?_; refine listF_step rfl (fun K' hK => ?_); have hzz := HB.out.size; refine opF_app (d := 7) rfl (by decide) (.tmp 5) (.tmp 6) _ rfl 3 i0 _ 8 Try.underlying47 hi0 hz0 hz1 hz2 rfl (by decide) (fun _ => rfl) int_one w.heap.size _ [] l (some p) c (by go_simp) (by go_simp) hO5 (Rd.oldB HR.out HB.out (by simp)) (by unfold maxLen; simp; omega) (by simp; omega) (by omega) (fun v7 w5 hO7 hG7 hV7 => hK _ _ ?_); clear hK K'; replace HB := hid (HB.out.grown hG7 (fun k hk => .inl (by simp [Value.ownBlock] at hk; omega))); have HO7 := hid hO7; clear hO5 hG7 hV7 hzz hO7; refine pl ?_; refine listF_abs (fun s7 z' => ?_); have sl2 := gu 2 z'; clear z' sl0 sl4; refine listF_nil ?_
 repeat ((fail_if_success refine stp ?_); with_reducible go_step)
 refine ret_F _ (res_t Try.results63 ((getD_F (by decide)).trans sl2)) ?_; exact ⟨_, rfl, HO7.out, HB.out.toBelow⟩

theorem cloneInt_any (a : Option Addr) (c : Nat) (l : List Int) (w : World) (hl : l.length ≤ 1000) (hR : RdInts w a l) :
    Calls Try.prog 63 #[.slice a l.length c] w fun e w' => ∃ v, e = .returned v ∧ Own int1 1 3 w.heap.size w' v l ∧ Below w.heap.size w w' := by
  cases a with
  | none => exact cloneInt_none c l w hl hR
  | some p => exact cloneInt_some p c l w hl hR
end

section
open Go.RowKit


structure Vl where
  k : Kd
  a : Option Addr
  c : Nat
  ca : Option Addr
  cc : Nat
  cs : List MCk
abbrev Vl.vs (x : Vl) : List Value := [.int .i64 x.k.new, .int .i64 x.k.wear.lo, .int .i64 x.k.wear.hi, .slice x.a x.k.steps.length x.c, .slice x.ca x.cs.length x.cc]
abbrev RdVls := Rd Vl.vs 5
def VlIn (x : Vl) : Prop := (-9223372036854775808 ≤ x.k.new ∧ x.k.new ≤ 9223372036854775807) ∧ x.k.steps.length ≤ 9223372036854775807 ∧ x.cs.length ≤ 9223372036854775807
structure RdRack (w : World) (ar : Option Addr) (rack : List Vl) : Prop where
  rd : RdVls w ar rack
  st : ∀ x ∈ rack, RdSteps w x.a x.k.steps
  ck : ∀ x ∈ rack, RdCks w x.ca x.cs
  inn : ∀ x ∈ rack, VlIn x
theorem RdRack.at {w w' : World} {ar : Option Addr} {rack : List Vl} (h : RdRack w ar rack) (hb : Below w.heap.size w w') : RdRack w' ar rack :=
  ⟨Rd.at h.rd hb, fun x hx => Rd.at (h.st x hx) hb, fun x hx => Rd.at (h.ck x hx) hb, h.inn⟩
theorem RdVls.ne {w : World} {a : Option Addr} {l : List Vl} (h : RdVls w a l) {k : Nat} (hk : k < l.length) :
    ∃ b off, a = some ⟨b, off, none⟩ ∧ b < w.heap.size ∧ w.cell? ⟨b, off + k * 5, none⟩ = some (.int .i64 l[k].k.new) ∧ w.cell? ⟨b, off + k * 5 + 1, none⟩ = some (.int .i64 l[k].k.wear.lo) ∧ w.cell? ⟨b, off + k * 5 + 2, none⟩ = some (.int .i64 l[k].k.wear.hi) ∧
      w.cell? ⟨b, off + k * 5 + 3, none⟩ = some (.slice l[k].a l[k].k.steps.length l[k].c) ∧ w.cell? ⟨b, off + k * 5 + 4, none⟩ = some (.slice l[k].ca l[k].cs.length l[k].cc) := by
  obtain ⟨b, off, ha, hb, hc⟩ := Rd.ne h hk; exact ⟨b, off, ha, hb, by simpa using hc 0 _ rfl, hc 1 _ rfl, hc 2 _ rfl, hc 3 _ rfl, hc 4 _ rfl⟩
/-- the spans at the hour -/
def vSp (f : Int) (x : Vl) : Span := (asked x.k x.cs f).1
def vCan (f : Int) (x : Vl) : Int := (failsOf x.k (vSp f x) f).earliest
def addPlan (o : List (List Int)) (i : Nat) (l : List Int) : List (List Int) := l.foldl (fun o n => o.set n.toNat (o.getD n.toNat [] ++ [(i : Int)])) o
def repGo (l : List Int) (f u : Int) : List Vl → Nat → List (List Int) → Option (List (List Int))
  | [], _, o => some o
  | x :: t, i, o => match planR x.k l (vCan f x) f u with
    | none => none
    | some p => repGo l f u t (i + 1) (addPlan o i p)
def askErr (f : Int) (x : Vl) : Int := (asked x.k x.cs f).2
def rackErr (f : Int) (rack : List Vl) : Int := ((rack.find? fun x => askErr f x != 0).map (askErr f)).getD 0
def repErr (rack : List Vl) (l : List Int) (f u : Int) : Int :=
  if 12 < rack.length ∨ 20 < l.length then 3
  else if l.any (fun n => !inb n 0 100000) = true ∨ inb f 0 100000 = false ∨ inb u 0 100000 = false then 7
  else if ndec l = false ∨ dups l = true ∨ u < f then 2
  else rackErr f rack
def repOut (rack : List Vl) (l : List Int) (f u : Int) : Option (List (List Int)) := repGo l f u rack 0 (List.replicate l.length [])
def repRes (rack : List Vl) (l : List Int) (f u : Int) : List (List Int) × Int :=
  if repErr rack l f u ≠ 0 then ([], repErr rack l f u) else match repOut rack l f u with
    | none => ([], 9)
    | some o => (o, 0)
theorem addPlan_snoc (o : List (List Int)) (i : Nat) (l : List Int) (n : Int) : addPlan o i (l ++ [n]) = (addPlan o i l).set n.toNat ((addPlan o i l).getD n.toNat [] ++ [(i : Int)]) := by
  unfold addPlan; rw [List.foldl_append]; rfl
theorem rackErr_none {f : Int} {rack : List Vl} (h : ∀ x ∈ rack, askErr f x = 0) : rackErr f rack = 0 := by
  unfold rackErr; rw [List.find?_eq_none.2 (fun x hx => by simp [h x hx])]; rfl
theorem rackErr_some {f : Int} {rack : List Vl} {i : Nat} (hi : i < rack.length) (h : ∀ j (hj : j < rack.length), j < i → askErr f rack[j] = 0) (he : askErr f rack[i] ≠ 0) : rackErr f rack = askErr f rack[i] := by
  unfold rackErr
  have : rack.find? (fun x => askErr f x != 0) = some rack[i] := by
    rw [List.find?_eq_some_iff_getElem]; exact ⟨by simpa using he, i, hi, rfl, fun j hj => by simpa using h j (by omega) hj⟩
  rw [this]; rfl
theorem repGo_step {l : List Int} {f u : Int} {rack : List Vl} {i : Nat} (hi : i < rack.length) {o : List (List Int)} {p : List Int} (hp : planR rack[i].k l (vCan f rack[i]) f u = some p) : repGo l f u (rack.drop i) i o = repGo l f u (rack.drop (i + 1)) (i + 1) (addPlan o i p) := by
  rw [List.drop_eq_getElem_cons hi]
  show (match planR rack[i].k l (vCan f rack[i]) f u with | none => none | some p => _) = _
  rw [hp]
theorem repGo_down {l : List Int} {f u : Int} {rack : List Vl} {i : Nat} (hi : i < rack.length) {o : List (List Int)} (hp : planR rack[i].k l (vCan f rack[i]) f u = none) : repGo l f u (rack.drop i) i o = none := by
  rw [List.drop_eq_getElem_cons hi]
  show (match planR rack[i].k l (vCan f rack[i]) f u with | none => none | some p => _) = _
  rw [hp]
def RepRes (rack : List Vl) (l : List Int) (f u : Int) (w : World) (e : Ending) (w' : World) : Prop :=
  ∃ a xs c, e = .returned (.tuple #[.slice a xs.length c, .int .i64 (repRes rack l f u).2]) ∧ RdPlan w' a xs ∧ xs.map Sl.l = (repRes rack l f u).1 ∧ Below w.heap.size w w' ∧ (∀ b, a = some b → w.heap.size ≤ b.block)
theorem rep_no {rack : List Vl} {l : List Int} {f u : Int} {w w' : World} {n : Int} (h : repRes rack l f u = ([], n)) (hb : Below w.heap.size w w') : RepRes rack l f u w (.returned (.tuple #[.slice none 0 0, .int .i64 n])) w' :=
  ⟨none, [], 0, by rw [h]; rfl, ⟨.inl rfl, by simp⟩, by rw [h]; rfl, hb, (fun b hb => by cases hb)⟩

/- a plan in memory: the rows that the call itself has made, each apart from the others -/
def Sl.v (x : Sl) : Value := .slice x.a x.l.length x.c
def Sl.zero : Sl := ⟨none, 0, []⟩
structure PlanO (base : Nat) (av : List Nat) (w : World) (xs : List Sl) : Prop where
  own : ∀ i (h : i < xs.length), Own int1 1 3 base w xs[i].v xs[i].l
  av : ∀ i (h : i < xs.length) g, xs[i].v.ownBlock = some g → g ∉ av
  ap : ∀ i j (hi : i < xs.length) (hj : j < xs.length), i ≠ j → Apart xs[i].v xs[j].v
theorem PlanO.kept {base : Nat} {av : List Nat} {w w' : World} {xs : List Sl} (h : PlanO base av w xs) (hk : ∀ i (hi : i < xs.length) g, xs[i].v.ownBlock = some g → w'.heap[g]? = w.heap[g]?) : PlanO base av w' xs :=
  ⟨fun i hi => (h.own i hi).kept (hk i hi), h.av, h.ap⟩
theorem PlanO.below {base : Nat} {av : List Nat} {w w' : World} {xs : List Sl} (h : PlanO base av w xs) (hb : Below w.heap.size w w') : PlanO base av w' xs :=
  h.kept fun i hi g hg => hb.block g (World.ownsRow.lt (h.own i hi) g hg).2
theorem PlanO.oldB {base : Nat} {av : List Nat} {w w' : World} {xs : List Sl} {Bs : List Nat} (h : PlanO base av w xs) (ho : OldB Bs w w') (hn : ∀ b ∈ Bs, b < base) : PlanO base av w' xs :=
  h.kept fun i hi g hg => ho.block g (World.ownsRow.lt (h.own i hi) g hg).2 (fun hm => by have := (World.ownsRow.lt (h.own i hi) g hg).1; have := hn g hm; omega)
theorem PlanO.put {base : Nat} {av : List Nat} {w : World} {xs : List Sl} {X : Nat} {o : Obj} (h : PlanO base av w xs) (hX : X ∈ av) : PlanO base av (w.putObj X o) xs :=
  h.kept fun i hi g hg => World.putObj_heap_other (fun e => h.av i hi g hg (e ▸ hX))
theorem PlanO.avoid {base : Nat} {av : List Nat} {w : World} {xs : List Sl} (h : PlanO base av w xs) {av' : List Nat} (ha : ∀ b ∈ av', w.heap.size ≤ b) : PlanO base av' w xs :=
  ⟨h.own, fun i hi g hg hm => by have := (World.ownsRow.lt (h.own i hi) g hg).2; have := ha g hm; omega, h.ap⟩
theorem PlanO.start (base n : Nat) (w : World) : PlanO base [] w (List.replicate n Sl.zero) :=
  ⟨fun i hi => by rw [List.getElem_replicate]; exact Own.nil _ _ _ _ _, fun _ _ _ _ => by simp, fun i j hi hj _ g hg => by rw [List.getElem_replicate] at hg; simp [Sl.zero, Sl.v, Value.ownBlock] at hg⟩
/-- all but row j -/
def OwnX (base j : Nat) (xs : List Sl) (w : World) : Prop := ∀ i (h : i < xs.length), i ≠ j → Own int1 1 3 base w xs[i].v xs[i].l
theorem OwnX.alloc {base j : Nat} {xs : List Sl} {w : World} (h : OwnX base j xs w) (o : Obj) : OwnX base j xs (w.alloc o) := fun i hi hn => (h i hi hn).alloc o
theorem OwnX.grown {base j : Nat} {xs : List Sl} {w w' : World} (h : OwnX base j xs w) {hj : j < xs.length} (ap : ∀ i j (hi : i < xs.length) (hj : j < xs.length), i ≠ j → Apart xs[i].v xs[j].v) (hg : w.grownBy w' xs[j].v.ownBlock) : OwnX base j xs w' := fun i hi hn => Own.grown (h i hi hn) hg (ap i j hi hj hn)
theorem OwnX.setLow {base j Y q : Nat} {xs : List Sl} {w : World} (h : OwnX base j xs w) (hY : Y < base) (u : Value) : OwnX base j xs (w.setCell ⟨Y, q, none⟩ u) := fun i hi hn => (h i hi hn).setFar' hY u
theorem PlanO.step {base : Nat} {av : List Nat} {w w' : World} {xs : List Sl} (h : PlanO base av w xs) {j : Nat} (hj : j < xs.length) (hx : OwnX base j xs w') {x' : Sl} (hO : Own int1 1 3 base w' x'.v x'.l) (hV : ∀ g, x'.v.ownBlock = some g → xs[j].v.ownBlock = some g ∨ w.heap.size ≤ g) (hav : ∀ b ∈ av, b < w.heap.size) : PlanO base av w' (xs.set j x') := by
  have hne : ∀ i (hi : i < xs.length), i ≠ j → Apart xs[i].v x'.v := fun i hi hn g hg he => by
    rcases hV g he with e | e
    · exact h.ap i j hi hj hn g hg e
    · have := (World.ownsRow.lt (h.own i hi) g hg).2; omega
  refine ⟨fun i hi => ?_, fun i hi g hg hm => ?_, fun i m hi hm hn => ?_⟩
  · rw [List.length_set] at hi
    by_cases e : j = i
    · subst e; simp only [List.getElem_set_self]; exact hO
    · simp only [List.getElem_set_ne e]; exact hx i hi (fun e' => e e'.symm)
  · rw [List.length_set] at hi
    by_cases e : j = i
    · subst e
      simp only [List.getElem_set_self] at hg
      rcases hV g hg with e | e
      · exact h.av j hi g e hm
      · have := hav g hm; omega
    · simp only [List.getElem_set_ne e] at hg; exact h.av i hi g hg hm
  · rw [List.length_set] at hi hm
    by_cases e : j = i
    · subst e
      have e2 : j ≠ m := hn
      simp only [List.getElem_set_self, List.getElem_set_ne e2]
      exact (hne m hm (fun e' => e2 e'.symm)).symm
    · by_cases e2 : j = m
      · subst e2; simp only [List.getElem_set_self, List.getElem_set_ne e]; exact hne i hi (fun e' => e e'.symm)
      · simp only [List.getElem_set_ne e, List.getElem_set_ne e2]; exact h.ap i m hi hm hn
theorem sls_cell {w : World} {g : Nat} {l : List Sl} (h : Cells w g (l.flatMap Sl.cs)) {i : Nat} (hi : i < l.length) : w.cell? ⟨g, i, none⟩ = some l[i].v := by
  have := h.2.1 (i * 1 + 0) _ (flat_get Sl.cs 1 (fun _ => rfl) l i l[i] (List.getElem?_eq_getElem hi) 0 _ rfl)
  simpa [Sl.v] using this
theorem sls_set (x : Sl) : ∀ (l : List Sl) (i : Nat), (l.flatMap Sl.cs).set i x.v = (l.set i x).flatMap Sl.cs
  | [], i => by simp
  | y :: l, 0 => by simp [Sl.v]
  | y :: l, i + 1 => by
    have ih := sls_set x l i
    simp only [List.set_cons_succ, List.flatMap_cons, Sl.cs, List.cons_append, List.nil_append] at *
    rw [ih]
theorem made_sls (n : Nat) : (madeCells (Value.slice none 0 0).cells (n * 1)).toList = (List.replicate n Sl.zero).flatMap Sl.cs := by
  have h1 : (List.replicate n Sl.zero).flatMap Sl.cs = List.replicate n (Value.slice none 0 0) := by
    induction n with
    | zero => rfl
    | succ n ih => rw [List.replicate_succ, List.flatMap_cons, ih, List.replicate_succ]; rfl
  rw [h1]
  apply List.ext_getElem
  · simp [madeCells]
  · intro i h1 h2
    simp [madeCells, Value.cells, Nat.mod_one]
theorem Own.toSl {base : Nat} {w : World} {v : Value} {l : List Int} (h : Own int1 1 3 base w v l) : ∃ x : Sl, v = x.v ∧ x.l = l := by
  obtain ⟨a, c, hv, _, _⟩ := Own.slice (f := int1) (m := 1) (fun _ => rfl) h; exact ⟨⟨a, c, l⟩, hv, rfl⟩
theorem PlanO.plan {base : Nat} {av : List Nat} {w : World} {xs : List Sl} {b : Nat} (h : PlanO base av w xs) (hb : Cells w b (xs.flatMap Sl.cs)) : RdPlan w (some ⟨b, 0, none⟩) xs := by
  refine ⟨Cells.rd (f := Sl.cs) (m := 1) (fun _ => rfl) hb, fun x hx => ?_⟩; obtain ⟨i, hi, rfl⟩ := List.mem_iff_getElem.1 hx; exact Own.rd' (f := int1) (m := 1) (fun _ => rfl) (h.own i hi) rfl
abbrev ptr1 (V : Nat) : List Value := [.pointer (some ⟨V, 0, none⟩)]
end


end Go.Proofs.Ytndcmmghgljinaa
