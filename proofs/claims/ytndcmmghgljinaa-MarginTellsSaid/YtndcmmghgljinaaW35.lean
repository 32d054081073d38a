/- Compact. -/
import Derived.Test.YtndcmmghgljinaaW34
import Derived.Lib.SliceRun
set_option linter.all false
namespace Go.Proofs.Ytndcmmghgljinaa
open Go.RowKit


theorem ints_cell {w : World} {g : Nat} {l : List Int} (h : Cells w g (l.flatMap int1)) {i : Nat} (hi : i < l.length) : w.cell? ⟨g, i, none⟩ = some (.int .i64 l[i]) := by
  have := h.2.1 (i * 1 + 0) _ (flat_get int1 1 (fun _ => rfl) l i l[i] (List.getElem?_eq_getElem hi) 0 _ rfl)
  simpa using this
theorem ints_set (x : Int) : ∀ (l : List Int) (i : Nat), (l.flatMap int1).set i (.int .i64 x) = (l.set i x).flatMap int1
  | [], i => by simp
  | y :: l, 0 => by simp
  | y :: l, i + 1 => by
    have ih := ints_set x l i
    simp only [List.set_cons_succ, List.flatMap_cons, int1, List.cons_append, List.nil_append] at *
    rw [ih]
theorem oldb_setCells {Bs : List Nat} {b : Nat} (hb : b ∈ Bs) : ∀ (l : List Value) (o : Nat) {w0 w : World}, OldB Bs w0 w → OldB Bs w0 (w.setCells b o l)
  | [], _, _, _, h => h
  | _ :: r, o, _, _, h => oldb_setCells hb r (o + 1) (h.set hb)
def CompactRes (g : Nat) (l : List Int) (w : World) (e : Ending) (w' : World) : Prop := ∃ n c, e = .returned (.slice (some ⟨g, 0, none⟩) n c) ∧ decide (n < l.length) = dups l ∧ n ≤ l.length ∧ OldB [g] w w'
theorem nodups {l : List Int} (h : ∀ j (h : j + 1 < l.length), ¬ l[j] = l[j + 1]) : dups l = false := by
  cases hd : dups l with
  | false => rfl
  | true => obtain ⟨i, hi, he⟩ := dups_iff.1 hd; exact absurd he (h i hi)

set_option maxRecDepth 100000 in
set_option maxHeartbeats 1000000 in
theorem compact_any (g cap : Nat) (l : List Int) (w : World) (hg : Cells w g (l.flatMap int1)) (hcap : l.length ≤ cap) (hll : l.length ≤ 1000) :
    Calls Try.prog 62 #[.slice (some ⟨g, 0, none⟩) l.length cap] w (CompactRes g l w) := by
 obtain ⟨i1, hi1, hz1, hy1, hx1⟩ := info_parts info_int
 have hzv : ∀ w, (zeroValue 3).run Try.prog w = .ok (.int .i64 0) w := fun w => by simp [zeroValue, typeInfo, hi1, hz1, go_sem]
 have kg := hg
 refine enter_F Try.func62 rfl Try.ntmps62 (by simp) ?_
 intro s0 hs; have sl0 : s0 0 = .slice (some ⟨g, 0, none⟩) l.length cap := hs 0 (by simp); clear hs; have HB := hid (OldB.refl [g] w); have qg := kg.1
 repeat ((fail_if_success refine stp ?_); with_reducible go_step)
 refine region_F ?_; refine pl ?_; refine listF_abs (fun s1 z' => ?_); replace sl0 := gs 0 z' sl0; clear z'; refine listF_nil ?_
 repeat ((fail_if_success refine stp ?_); with_reducible go_step)
 refine region_F ?_
 iterate 3 refine pl ?_
 refine listF_abs (fun s2 z' => ?_); replace sl0 := gs 0 z' sl0; have sl8 := gu 8 z'; clear z'; refine listF_nil ?_
 repeat ((fail_if_success refine stp ?_); with_reducible go_step)
 refine cond_E sl8 (by decide) ?_ ?_ <;> (clear sl8; intro h8 sl8)
 ·skip
  have Hd := hid (show dups l = false from nodups fun j h => by simp at h8; omega)
  repeat ((fail_if_success refine stp ?_); with_reducible go_step)
  refine region_F ?_; refine pl ?_; refine pl ?_; refine listF_abs (fun s3 z' => ?_); have sl2 := gu 2 z'; clear z' sl0 sl8; refine listF_nil ?_
  repeat ((fail_if_success refine stp ?_); with_reducible go_step)
  refine ret_F _ (res_t Try.results62 ((getD_F (by decide)).trans sl2)) ?_; exact ⟨_, _, rfl, by rw [Hd.out]; simp, Nat.le_refl _, HB.out⟩
 ·skip
  have hl2 : 2 ≤ l.length := by simp at h8; omega
  repeat ((fail_if_success refine stp ?_); with_reducible go_step)
  refine region_F ?_; refine pl ?_; refine listF_abs (fun s4 z' => ?_); replace sl0 := gs 0 z' sl0; have sl3 := gu 3 z'; clear z' sl8; refine listF_nil ?_
  repeat ((fail_if_success refine stp ?_); with_reducible go_step)
  have hc0_0 := hid sl0; refine loop_F (n := 61) (fun kJ sJ wJ => ∃ (m : Nat), kJ = l.length - m ∧ sJ 3 = .int .i64 ((m : Int) + 1) ∧ sJ 0 = s4 0 ∧ OldB [] w wJ ∧ m + 1 ≤ l.length ∧ (Hid (∀ j (h : j + 1 < l.length), j < m → ¬ l[j] = l[j + 1]))) ⟨0, rfl, (by first | exact sl3 | (rw [sl3]; go_num) | (rw [sl3]; rfl)), rfl, OldB.refl _ _, by omega, hid (fun j h1 h2 => by omega)⟩ ?_; clear sl3; rintro kJ s5 w6 ⟨m, rfl, sl3, e0, hb7, hml, hnd⟩; replace sl0 := e0.trans sl0; clear e0; have hoJ := hb7; clear qg; replace kg := kg.oldB hb7 (by first | (simp; done) | (simp; omega)); replace HB := hid (HB.out.more hb7 (by simp; try omega)); clear hb7; have qg := kg.1; have HoJ := hid hoJ; clear hoJ; have HL8 := HoJ; clear HoJ
  repeat ((fail_if_success refine stp ?_); with_reducible go_step)
  refine region_F ?_
  iterate 4 refine pl ?_
  refine listF_abs (fun s9 z' => ?_); replace sl0 := gs 0 z' sl0; replace sl3 := gs 3 z' sl3; have sl13 := gu 13 z'; clear z'; refine listF_nil ?_
  repeat ((fail_if_success refine stp ?_); with_reducible go_step)
  refine cond_E sl13 (by decide) ?_ ?_ <;> (clear sl13; intro h13 sl13)
  ·skip
   have hlt : m + 1 < l.length := by simp at h13; omega
   have hlt2 : m < l.length := by omega
   have hlt' : (m : Int) + 1 < l.length := by omega
   have hlt2' : (m : Int) < l.length := by omega
   have e1 : ((m : Int) + 1).toNat = m + 1 := by omega
   have c0 := ints_cell kg hlt; have c1 := ints_cell kg hlt2; have w1 : IntKind.i64.wrap ((m : Int) + 1 - 1) = (m : Int) := (IntWalk.i64_in _ (by omega)).trans (by omega); have w2 : IntKind.i64.wrap (m : Int) = (m : Int) := IntWalk.i64_in _ (by omega); have w3 : IntKind.i64.wrap ((m : Int) + 1 + 1) = (m : Int) + 1 + 1 := IntWalk.i64_in _ (by omega)
   repeat ((fail_if_success refine stp ?_); with_reducible go_step)
   refine regionQ_F (Below w6.heap.size w6) (by kernel_rfl) (by kernel_rfl) (Below.refl _ _).drew ?_
   iterate 10 refine lq ?_
   refine listQ_nil ?_; intro w10 hb11; clear qg; replace kg := kg.at hb11; replace HL8 := hid (HL8.out.below hb11); replace HB := hid (HB.out.below hb11); clear hb11; have qg := kg.1
   repeat ((fail_if_success refine stp ?_); with_reducible go_step)
   refine wp_abs (fun s12 z' => ?_); replace sl0 := gs 0 z' sl0; replace sl3 := gs 3 z' sl3; have sl25 := gu 25 z'; clear z' sl13
   refine cond_E sl25 (by decide) ?_ ?_ <;> (clear sl25; intro h25 sl25)
   ·skip
    have Hd := hid (show dups l = true from dups_iff.2 ⟨m, hlt, by simpa using (show l[m + 1] = l[m] by simpa using h25).symm⟩); clear c0 c1
    have hcap2 : m + 1 < cap := by omega
    have hcap3 : ¬ cap = m + 1 := by omega
    have hcap4 : ¬ m + 1 = cap := by omega
    have hm1 : (0 : Int) ≤ (m : Int) + 1 := by omega
    have hm2' : (m : Int) + 1 ≤ (l.length : Int) := by omega
    repeat ((fail_if_success refine stp ?_); with_reducible go_step)
    refine region_F ?_
    iterate 4 refine pl ?_
    refine listF_abs (fun s13 z' => ?_); replace sl0 := gs 0 z' sl0; replace sl3 := gs 3 z' sl3; have sl4 := gu 4 z'; clear z' sl25; refine listF_nil ?_
    repeat ((fail_if_success refine stp ?_); with_reducible go_step)
    refine region_F ?_; refine pl ?_; refine listF_abs (fun s14 z' => ?_); replace sl0 := gs 0 z' sl0; replace sl3 := gs 3 z' sl3; replace sl4 := gs 4 z' sl4; have sl5 := gu 5 z'; clear z'; refine listF_nil ?_
    repeat ((fail_if_success refine stp ?_); with_reducible go_step)
    have hc1_0 := hid sl0; have hc1_4 := hid sl4; refine loop_F (n := 61) (fun kJ sJ wJ => ∃ (q p : Nat) (m2 : List Int), kJ = l.length - q ∧ sJ 3 = .int .i64 ((p : Int) + 1) ∧ sJ 5 = .int .i64 ((q : Int) + 1) ∧ sJ 0 = s14 0 ∧ sJ 4 = s14 4 ∧ OldB [g] w10 wJ ∧ Cells wJ g (m2.flatMap int1) ∧ p ≤ m + q ∧ m + 1 + (q + 1) ≤ l.length ∧ m2.length = l.length) ⟨0, m, l, rfl, (by first | exact sl3 | (rw [sl3]; go_num) | (rw [sl3]; rfl)), (by first | exact sl5 | (rw [sl5]; go_num) | (rw [sl5]; rfl)), rfl, rfl, OldB.refl _ _, (by first | (with_reducible exact kg) | (apply Cells.conv; (focus (exact kg)); (first | rfl | (simp; done)))), by omega, by omega, rfl⟩ ?_; clear sl3 sl5; rintro kJ s15 w16 ⟨q, p, m2, rfl, sl3, sl5, e0, e4, hb17, mg', hpq, hqm, hm2⟩; replace sl0 := e0.trans sl0; clear e0; replace sl4 := e4.trans sl4; clear e4; have hoJ := hb17; clear qg; replace kg := mg'; clear HL8; replace HB := hid (HB.out.more hb17 (by simp; try omega))
    clear hb17; have qg := kg.1; clear mg'; have HoJ := hid hoJ; clear hoJ; have HL18 := HoJ; clear HoJ
    repeat ((fail_if_success refine stp ?_); with_reducible go_step)
    refine region_F ?_
    iterate 4 refine pl ?_
    refine listF_abs (fun s19 z' => ?_); replace sl0 := gs 0 z' sl0; replace sl3 := gs 3 z' sl3; replace sl4 := gs 4 z' sl4; replace sl5 := gs 5 z' sl5; have sl32 := gu 32 z'; clear z'; refine listF_nil ?_
    repeat ((fail_if_success refine stp ?_); with_reducible go_step)
    refine cond_E sl32 (by decide) ?_ ?_ <;> (clear sl32; intro h32 sl32)
    ·skip
     have hq : q + 1 < l.length - (m + 1) := by simp at h32; omega
     have hq1 : m + 1 + (q + 1) < m2.length := by omega
     have hq2 : m + 1 + q < m2.length := by omega
     have hq1' : (q : Int) + 1 < ((l.length - (m + 1) : Nat) : Int) := by omega
     have hq0 : (0 : Int) ≤ (q : Int) + 1 := by omega
     have hq3 : q < l.length - (m + 1) := by omega
     have e2 : ((q : Int) + 1).toNat = q + 1 := by omega
     have d0 := ints_cell kg hq1; have d1 := ints_cell kg hq2; have w5 : IntKind.i64.wrap ((q : Int) + 1 - 1) = (q : Int) := (IntWalk.i64_in _ (by omega)).trans (by omega); have w6 : IntKind.i64.wrap (q : Int) = (q : Int) := IntWalk.i64_in _ (by omega); have w7 : IntKind.i64.wrap ((q : Int) + 1 + 1) = (q : Int) + 1 + 1 := IntWalk.i64_in _ (by omega); have w8 : IntKind.i64.wrap ((p : Int) + 1 + 1) = (p : Int) + 1 + 1 := IntWalk.i64_in _ (by omega)
     have hp1 : p + 1 < l.length := by omega
     have hp1' : (p : Int) + 1 < l.length := by omega
     have e3 : ((p : Int) + 1).toNat = p + 1 := by omega
     have d2 := ints_cell kg (show p + 1 < m2.length by omega)
     repeat ((fail_if_success refine stp ?_); with_reducible go_step)
     refine regionQ_F (Below w16.heap.size w16) (by kernel_rfl) (by kernel_rfl) (Below.refl _ _).drew ?_
     iterate 10 refine lq ?_
     refine listQ_nil ?_; intro w20 hb21; clear qg; replace kg := kg.at hb21; replace HL18 := hid (HL18.out.below hb21); replace HB := hid (HB.out.below hb21); clear hb21; have qg := kg.1
     repeat ((fail_if_success refine stp ?_); with_reducible go_step)
     refine wp_abs (fun s22 z' => ?_); replace sl0 := gs 0 z' sl0; replace sl3 := gs 3 z' sl3; replace sl4 := gs 4 z' sl4; replace sl5 := gs 5 z' sl5; have sl44 := gu 44 z'; clear z' sl32
     refine cond_E sl44 (by decide) ?_ ?_ <;> (clear sl44; intro h44 sl44)
     ·skip
      clear d0 d1 d2; have d0 := ints_cell kg hq1; have d2 := ints_cell kg (show p + 1 < m2.length by omega)
      repeat ((fail_if_success refine stp ?_); with_reducible go_step)
      refine region_F ?_
      iterate 7 refine pl ?_
      have zg := kg.2.2; refine pl ?_; refine listF_absw ?_; intro w23 hw'; have kg' := cells_of hw' (Cells.set (kg)); rw [ints_set] at kg'; have hb24 : OldB [g] w20 w23 := oldset hw'; clear hw'; clear zg; clear qg; replace kg := kg'; replace HL18 := hid (HL18.out.more hb24 (by simp; try omega)); replace HB := hid (HB.out.more hb24 (by simp; try omega)); clear hb24; have qg := kg.1; clear kg'; refine listF_abs (fun s25 z' => ?_); replace sl0 := gs 0 z' sl0; replace sl3 := gs 3 z' sl3; replace sl4 := gs 4 z' sl4; replace sl5 := gs 5 z' sl5; clear z' sl44; refine listF_nil ?_
      repeat ((fail_if_success refine stp ?_); with_reducible go_step)
      refine region_F ?_
      iterate 3 refine pl ?_
      refine listF_abs (fun s26 z' => ?_); replace sl0 := gs 0 z' sl0; replace sl3 := gu 3 z'; replace sl4 := gs 4 z' sl4; replace sl5 := gs 5 z' sl5; clear z'; refine listF_nil ?_
      repeat ((fail_if_success refine stp ?_); with_reducible go_step)
      refine region_F ?_
      iterate 3 refine pl ?_
      refine listF_abs (fun s27 z' => ?_); replace sl0 := gs 0 z' sl0; replace sl3 := gs 3 z' sl3; replace sl4 := gs 4 z' sl4; replace sl5 := gu 5 z'; clear z'; refine listF_nil ?_
      repeat ((fail_if_success refine stp ?_); with_reducible go_step)
      refine ⟨_, _, rfl, ?_, q + 1, p + 1, (m2.set (p + 1) m2[m + 1 + (q + 1)]), rfl, (by first | (with_reducible exact sl3) | (rw [sl3]; (with_reducible go_num); done) | (rw [sl3, IntWalk.i64_in] <;> first | ((with_reducible go_num); done) | omega) | (rw [sl3]; go_num; done) | (rw [sl3]; simp; done) | (rw [sl3]; simp; omega)), (by first | (with_reducible exact sl5) | (rw [sl5]; (with_reducible go_num); done) | (rw [sl5, IntWalk.i64_in] <;> first | ((with_reducible go_num); done) | omega) | (rw [sl5]; go_num; done) | (rw [sl5]; simp; done) | (rw [sl5]; simp; omega)), (sl0.trans hc1_0.out.symm), (sl4.trans hc1_4.out.symm), HL18.out, (by first | (with_reducible exact kg) | (apply Cells.conv; (focus (exact kg)); (first | rfl | (simp; done)))), by omega, by omega, (by rw [List.length_set]; exact hm2)⟩
      omega
     ·skip
      repeat ((fail_if_success refine stp ?_); with_reducible go_step)
      refine region_F ?_
      iterate 3 refine pl ?_
      refine listF_abs (fun s28 z' => ?_); replace sl0 := gs 0 z' sl0; replace sl3 := gs 3 z' sl3; replace sl4 := gs 4 z' sl4; replace sl5 := gu 5 z'; clear z' sl44; refine listF_nil ?_
      repeat ((fail_if_success refine stp ?_); with_reducible go_step)
      refine ⟨_, _, rfl, ?_, q + 1, p, m2, rfl, (by first | (with_reducible exact sl3) | (rw [sl3]; (with_reducible go_num); done) | (rw [sl3, IntWalk.i64_in] <;> first | ((with_reducible go_num); done) | omega) | (rw [sl3]; go_num; done) | (rw [sl3]; simp; done) | (rw [sl3]; simp; omega)), (by first | (with_reducible exact sl5) | (rw [sl5]; (with_reducible go_num); done) | (rw [sl5, IntWalk.i64_in] <;> first | ((with_reducible go_num); done) | omega) | (rw [sl5]; go_num; done) | (rw [sl5]; simp; done) | (rw [sl5]; simp; omega)), (sl0.trans hc1_0.out.symm), (sl4.trans hc1_4.out.symm), HL18.out, (by first | (with_reducible exact kg) | (apply Cells.conv; (focus (exact kg)); (first | rfl | (simp; done)))), by omega, by omega, hm2⟩
      omega
    ·skip
     have hp1 : p + 1 < l.length := by simp at h32; omega
     have e3 : ((p : Int) + 1).toNat = p + 1 := by omega
     have hpc : p + 1 < cap := by omega
     have hpc' : (p : Int) + 1 ≤ (cap : Int) := by omega
     have hp3 : (0 : Int) ≤ (p : Int) + 1 := by omega
     have hp2' : (p : Int) + 1 ≤ (l.length : Int) := by omega
     have hcap5 : ¬ cap = p + 1 := by omega
     repeat ((fail_if_success refine stp ?_); with_reducible go_step)
     clear HL18; clear hc1_0 hc1_4; refine region_F ?_
     iterate 3 refine pl ?_
     have hclr := fun ty => Lib.run_clear_slice (P := Try.prog) w16 47 3 ty (.int .i64 0) Try.underlying47 hzv rfl rfl g (p + 1) (l.length - (p + 1)) (cap - (p + 1)) (by omega) (fun j hj => by rw [ints_cell kg (show p + 1 + j < m2.length by omega)]; rfl) (fun j hj => kg.2.2 _)
     refine pl ?_; clear hclr; refine listF_absw (fun w29 hw' => ?_)
     have hb30 : OldB [g] w16 w29 := by rw [hw']; exact oldb_setCells (by simp) _ _ (OldB.refl _ _)
     have kg2 : Cells w29 g [] := ⟨Nat.lt_of_lt_of_le kg.1 hb30.size, (by simp), fun o => by rw [hw', World.frozen?_setCells]; exact kg.2.2 o⟩; clear hw'; clear qg; replace kg := kg2; replace HB := hid (HB.out.more hb30 (by simp; try omega)); clear hb30; have qg := kg.1; refine listF_abs (fun s31 z' => ?_); replace sl0 := gs 0 z' sl0; replace sl3 := gs 3 z' sl3; clear z' sl4 sl5 sl32; refine listF_nil ?_
     repeat ((fail_if_success refine stp ?_); with_reducible go_step)
     refine region_F ?_
     iterate 4 refine pl ?_
     refine listF_abs (fun s32 z' => ?_); have sl2 := gu 2 z'; clear z' sl0 sl3; refine listF_nil ?_
     repeat ((fail_if_success refine stp ?_); with_reducible go_step)
     refine ret_F _ (res_t Try.results62 ((getD_F (by decide)).trans sl2)) ?_; exact ⟨p + 1, _, rfl, by rw [Hd.out]; simp; exact hp1, by omega, HB.out⟩
   ·skip
    have Hne := hid (show ¬ l[m] = l[m + 1] from fun e => by simp at h25; exact h25 e.symm)
    repeat ((fail_if_success refine stp ?_); with_reducible go_step)
    refine region_F ?_
    iterate 3 refine pl ?_
    refine listF_abs (fun s33 z' => ?_); replace sl0 := gs 0 z' sl0; replace sl3 := gu 3 z'; clear z' sl25; refine listF_nil ?_
    repeat ((fail_if_success refine stp ?_); with_reducible go_step)
    refine ⟨_, _, rfl, ?_, m + 1, rfl, (by first | (with_reducible exact sl3) | (rw [sl3]; (with_reducible go_num); done) | (rw [sl3, IntWalk.i64_in] <;> first | ((with_reducible go_num); done) | omega) | (rw [sl3]; go_num; done) | (rw [sl3]; simp; done) | (rw [sl3]; simp; omega)), (sl0.trans hc0_0.out.symm), HL8.out, by omega, hid (fun j h1 h2 => by rcases Nat.lt_or_ge j m with h | h <;> first | exact hnd.out j h1 h | (have e : j = m := (by omega); subst e; exact Hne.out))⟩
    omega
  ·skip
   have Hd := hid (show dups l = false from nodups fun j h => hnd.out j h (by simp at h13; omega))
   repeat ((fail_if_success refine stp ?_); with_reducible go_step)
   clear HL8; clear hc0_0; refine region_F ?_; refine pl ?_; refine pl ?_; refine listF_abs (fun s34 z' => ?_); have sl2 := gu 2 z'; clear z' sl0 sl3 sl13; refine listF_nil ?_
   repeat ((fail_if_success refine stp ?_); with_reducible go_step)
   refine ret_F _ (res_t Try.results62 ((getD_F (by decide)).trans sl2)) ?_; exact ⟨_, _, rfl, by rw [Hd.out]; simp, Nat.le_refl _, HB.out⟩

end Go.Proofs.Ytndcmmghgljinaa
