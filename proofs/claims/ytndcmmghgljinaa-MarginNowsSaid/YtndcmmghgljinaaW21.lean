/- The reference's sorted. -/
import Derived.Test.YtndcmmghgljinaaW12
import Derived.Test.YtndcmmghgljinaaW5
set_option linter.all false
namespace Go.Proofs.Ytndcmmghgljinaa
open Go.RowKit


theorem Rd.takeK {α : Type} {f : α → List Value} {m : Nat} {w : World} {a : Option Addr} {l : List α} (h : Rd f m w a l) (k : Nat) : Rd f m w a (l.take k) := by
  rcases h with h | ⟨b, off, ha, hlt, hc⟩
  · exact .inl (by simp [h])
  · exact .inr ⟨b, off, ha, hlt, fun i x hi j v hj => hc i x (by
      rw [List.getElem?_take] at hi
      split at hi
      · exact hi
      · cases hi) j v hj⟩
theorem slice_from (a : Option Addr) (len cap k : Nat) (hk : k ≤ len) (hc : len ≤ cap) : ∃ ad cd, (∀ w, (Instr.sliceAt 33 (.slice a len cap) (some (.int .i64 (k : Int))) none none).run Try.prog w = .ok (.slice ad (len - k) cd) w) ∧
    ∀ (w : World) (l : List MCk), l.length = len → RdCks w a l → RdCks w ad (l.drop k) := by
  have hu := Try.underlying33
  refine ⟨if cap = k then a else a.map (·.add (k * 3)), cap - k, fun w => ?_, ?_⟩
  · have h0 : (0 : Int) ≤ (k : Int) := by omega
    have h1 : (k : Int) ≤ (len : Int) := by omega
    go_simp
  · intro w l hl h
    by_cases hd : l.drop k = []
    · exact .inl hd
    · have hlt : k < len := by
        rcases Nat.lt_or_ge k len with h | h
        · exact h
        · exact absurd (List.drop_eq_nil_of_le (by omega)) hd
      rw [if_neg (by omega)]
      rcases h with h | ⟨b, off, ha, hlt', hc'⟩
      · rw [h] at hd; simp at hd
      · subst ha
        refine .inr ⟨b, off + k * 3, by simp [Addr.add], hlt', fun i x hi j v hj => ?_⟩
        have := hc' (k + i) x (by rw [List.getElem?_drop] at hi; exact hi) j v hj
        rw [show off + k * 3 + i * 3 + j = off + (k + i) * 3 + j by omega]; exact this
theorem insC_at {c : MCk} {l : List MCk} {k : Nat} (hk : k ≤ l.length) (h1 : ∀ j (hj : j < l.length), j < k → l[j].hour ≤ c.hour) (h2 : ∀ (h : k < l.length), ¬ l[k].hour ≤ c.hour) : insC c l = l.take k ++ [c] ++ l.drop k := by
  have hdrop : ∀ r : List MCk, (∀ (h : 0 < r.length), ¬ r[0].hour ≤ c.hour) → r.takeWhile (fun x => decide (x.hour ≤ c.hour)) = [] ∧ r.dropWhile (fun x => decide (x.hour ≤ c.hour)) = r := by
    intro r hr
    cases r with
    | nil => exact ⟨rfl, rfl⟩
    | cons x r => have := hr (by simp); simp at this; exact ⟨by simp [List.takeWhile_cons]; omega, by rw [List.dropWhile_cons]; simp; omega⟩
  have hall : ∀ x ∈ l.take k, decide (x.hour ≤ c.hour) = true := by
    intro x hx
    obtain ⟨j, hj, rfl⟩ := List.mem_take_iff_getElem.1 hx
    simpa using h1 j (by omega) (by omega)
  obtain ⟨d1, d2⟩ := hdrop (l.drop k) (fun h => by rw [List.getElem_drop]; simpa using h2 (by simp at h; omega))
  unfold insC
  have e1 : l.takeWhile (fun x => decide (x.hour ≤ c.hour)) = l.take k := by
    conv => lhs; rw [← List.take_append_drop k l]
    rw [List.takeWhile_append_of_pos hall, d1, List.append_nil]
  have e2 : l.dropWhile (fun x => decide (x.hour ≤ c.hour)) = l.drop k := by
    conv => lhs; rw [← List.take_append_drop k l]
    rw [List.dropWhile_append_of_pos hall, d2]
  rw [e1, e2]; simp
theorem sortC_step {l : List MCk} {i : Nat} (hi : i < l.length) : sortC (l.take (i + 1)) = insC l[i] (sortC (l.take i)) := by
  rw [List.take_succ_eq_append_getElem hi, sortC_snoc]
theorem sortC_len {l : List MCk} {i : Nat} (hi : i ≤ l.length) : (sortC (l.take i)).length = i := by rw [(sortC_ok _).2.length_eq]; simp; omega
theorem RdCks.get {w : World} {b off : Nat} {l : List MCk} (h : RdCks w (some ⟨b, off, none⟩) l) {k : Nat} (hk : k < l.length) :
    b < w.heap.size ∧ w.cell? ⟨b, off + k * 3, none⟩ = some (.int .i64 l[k].hour) ∧ w.cell? ⟨b, off + k * 3 + 1, none⟩ = some (.int .i64 l[k].volt) ∧ w.cell? ⟨b, off + k * 3 + 2, none⟩ = some (.bool l[k].passed) := by
  obtain ⟨hb, hc⟩ := Rd.get h hk
  exact ⟨hb, hc 0 _ rfl, hc 1 _ rfl, hc 2 _ rfl⟩
def RSortRes (l : List MCk) (w : World) (e : Ending) (w' : World) : Prop := ∃ a c, e = .returned (.slice a (sortC l).length c) ∧ RdCks w' a (sortC l) ∧ (∀ b, a = some b → w.heap.size ≤ b.block) ∧ Below w.heap.size w w'

set_option maxRecDepth 100000 in
set_option maxHeartbeats 8000000 in
theorem rsorted_any (al : Option Addr) (c : Nat) (l : List MCk) (w : World) (hl : l.length ≤ 30) (hRl : RdCks w al l) :
    Calls Try.prog 86 #[.slice al l.length c] w (RSortRes l w) := by
 have HRl := hid hRl
 clear hRl
 obtain ⟨i0, hi0, hz0, hz1, hz2⟩ := info_parts info_cloneCk
 refine enter_F Try.func86 rfl Try.ntmps86 (by simp) ?_
 intro s0 hs
 have sl0 : s0 0 = .slice al l.length c := hs 0 (by simp)
 clear hs
 have HB := hid (OldB.refl [] w)
 repeat ((fail_if_success refine stp ?_); with_reducible go_step)
 refine region_F ?_
 refine pl ?_
 refine listF_abs (fun s1 hs' => ?_)
 replace sl0 := gs 0 hs' sl0; clear hs'
 refine listF_nil ?_
 repeat ((fail_if_success refine stp ?_); with_reducible go_step)
 refine region_F ?_
 refine pl ?_
 refine listF_abs (fun s2 hs' => ?_)
 replace sl0 := gs 0 hs' sl0; have sl3 := gu 3 hs'; clear hs'
 refine listF_nil ?_
 repeat ((fail_if_success refine stp ?_); with_reducible go_step)
 refine region_F ?_
 refine pl ?_
 refine listF_abs (fun s3 hs' => ?_)
 replace sl0 := gs 0 hs' sl0; replace sl3 := gs 3 hs' sl3; have sl4 := gu 4 hs'; clear hs'
 refine listF_nil ?_
 repeat ((fail_if_success refine stp ?_); with_reducible go_step)
 have hc0_0 := hid sl0
 refine loop_F (n := 47) (fun kJ sJ wJ => ∃ (i : Nat) (a3 : Option Addr) (c3 : Nat) (ls : List MCk), kJ = l.length - i ∧ sJ 3 = .slice a3 ls.length c3 ∧ sJ 4 = .int .i64 (i : Int) ∧ sJ 0 = s3 0 ∧ OldB [] w wJ ∧ i ≤ l.length ∧ Hid (ls = sortC (l.take i)) ∧ Own MCk.cs 3 74 w.heap.size wJ (.slice a3 ls.length c3) ls) ⟨0, none, 0, [], rfl, (by first | exact sl3 | (rw [sl3]; go_num) | (rw [sl3]; rfl)), (by first | exact sl4 | (rw [sl4]; go_num) | (rw [sl4]; rfl)), rfl, OldB.refl _ _, Nat.zero_le _, hid rfl, Own.nil _ _ _ _ _⟩ ?_
 clear sl3 sl4
 rintro kJ s4 w5 ⟨i, a3, c3, ls, rfl, sl3, sl4, e0, hb6, hil, hls, hO3⟩
 replace sl0 := e0.trans sl0; clear e0
 have hoJ := hb6
 replace HB := hid (HB.out.more hb6 (by simp; try omega))
 clear hb6
 have HoJ := hid hoJ; clear hoJ
 have Hll := hid (show ls.length = i by rw [hls.out]; exact sortC_len hil)
 have hll1 : ls.length ≤ i := by rw [Hll.out]; exact Nat.le_refl _
 have hll2 : i ≤ ls.length := by rw [Hll.out]; exact Nat.le_refl _
 have hcap := Own.cap hO3
 have HL7 := HoJ; clear HoJ
 repeat ((fail_if_success refine stp ?_); with_reducible go_step)
 refine region_F ?_
 refine pl ?_
 refine pl ?_
 refine pl ?_
 refine pl ?_
 refine listF_abs (fun s8 hs' => ?_)
 replace sl0 := gs 0 hs' sl0; replace sl3 := gs 3 hs' sl3; replace sl4 := gs 4 hs' sl4; have sl9 := gu 9 hs'; clear hs'
 refine listF_nil ?_
 repeat ((fail_if_success refine stp ?_); with_reducible go_step)
 refine cond_E sl9 (by decide) ?_ ?_ <;> (clear sl9; intro h9 sl9)
 ·skip
  have hlt : i < l.length := by simpa using h9
  obtain ⟨b, off, rfl, hbs, c0, c1, c2⟩ := RdCks.ne HRl.out hlt
  have hlt' : (i : Int) < l.length := by omega
  repeat ((fail_if_success refine stp ?_); with_reducible go_step)
  refine region_F ?_
  refine pl ?_
  refine listF_abs (fun s9 hs' => ?_)
  replace sl0 := gs 0 hs' sl0; replace sl3 := gs 3 hs' sl3; replace sl4 := gs 4 hs' sl4; have sl5 := gu 5 hs'; clear hs' sl9
  refine listF_nil ?_
  repeat ((fail_if_success refine stp ?_); with_reducible go_step)
  have hc1_0 := hid sl0
  have hc1_3 := hid sl3
  have hc1_4 := hid sl4
  refine loop_F (n := 47) (fun kJ sJ wJ => ∃ (k : Nat), kJ = ls.length - k ∧ sJ 5 = .int .i64 (k : Int) ∧ sJ 0 = s9 0 ∧ sJ 3 = s9 3 ∧ sJ 4 = s9 4 ∧ OldB [] w5 wJ ∧ k ≤ ls.length ∧ (Hid (∀ j (hj : j < ls.length), j < k → ls[j].hour ≤ l[i].hour))) ⟨0, rfl, (by first | exact sl5 | (rw [sl5]; go_num) | (rw [sl5]; rfl)), rfl, rfl, rfl, OldB.refl _ _, Nat.zero_le _, hid (fun j hj h => by omega)⟩ ?_
  clear sl5
  rintro kJ s10 w11 ⟨k, rfl, sl5, e0, e3, e4, hb12, hkl, hks⟩
  replace sl0 := e0.trans sl0; clear e0
  replace sl3 := e3.trans sl3; clear e3
  replace sl4 := e4.trans sl4; clear e4
  have hoJ := hb12
  replace HL7 := hid (HL7.out.more hb12 (by simp; try omega))
  replace hO3 := Own.oldB hO3 hb12 (fun g hg => by have n0 := (World.ownsRow.lt hO3 g hg).1; first | (simp; done) | (simp; omega))
  replace HB := hid (HB.out.more hb12 (by simp; try omega))
  clear hb12
  have HoJ := hid hoJ; clear hoJ
  have HL13 := HoJ; clear HoJ
  repeat ((fail_if_success refine stp ?_); with_reducible go_step)
  rcases Nat.lt_or_ge k ls.length with hk | hk
  ·skip
   obtain ⟨b3, o3, ha3, hb3, d0, d1, d2⟩ := RdCks.ne (Own.rd' (f := MCk.cs) (m := 3) (fun _ => rfl) hO3 rfl) hk
   obtain ⟨hcw, _⟩ := bcell HB.out.toBelow
   have hk' : (k : Int) < ls.length := by omega
   have c0' := (hcw b (off + i * 3) hbs).trans c0
   have hbs2 : b < w11.heap.size := by have := HB.out.size; omega
   refine regionQ_F (Below w11.heap.size w11) (by kernel_rfl) (by kernel_rfl) (Below.refl _ _).drew ?_
   refine lq ?_
   refine lq ?_
   refine lq ?_
   refine lq ?_
   refine lq ?_
   refine lqy ?_
   refine lqy ?_
   refine lqy ?_
   refine lqy ?_
   refine lqy ?_
   refine lqy ?_
   refine lqy ?_
   refine lqy ?_
   refine lqy ?_
   refine lqy ?_
   refine lqy ?_
   refine lq ?_
   refine listQ_nil ?_
   intro w14 hb15
   replace HL7 := hid (HL7.out.below hb15)
   replace HL13 := hid (HL13.out.below hb15)
   replace hO3 := Own.at hO3 hb15
   replace HB := hid (HB.out.below hb15)
   clear hb15
   repeat ((fail_if_success refine stp ?_); with_reducible go_step)
   refine wp_abs (fun s16 hs' => ?_)
   replace sl0 := gs 0 hs' sl0; replace sl3 := gs 3 hs' sl3; replace sl4 := gs 4 hs' sl4; replace sl5 := gs 5 hs' sl5; have sl17 := gu 17 hs'; have sl18 := gu 18 hs'
   have sl19 := gu 19 hs'; have sl20 := gu 20 hs'; have sl21 := gu 21 hs'; have sl22 := gu 22 hs'; have sl23 := gu 23 hs'; have sl24 := gu 24 hs'
   have sl25 := gu 25 hs'; have sl26 := gu 26 hs'; have sl27 := gu 27 hs'; have sl28 := gu 28 hs'; clear hs'
   refine cond_E sl28 (by decide) ?_ ?_ <;> (clear sl28; intro h28 sl28)
   ·skip
    have Hle := hid (show ls[k].hour ≤ l[i].hour by simpa using h28)
    repeat ((fail_if_success refine stp ?_); with_reducible go_step)
    refine region_F ?_
    refine pl ?_
    refine pl ?_
    refine pl ?_
    refine listF_abs (fun s17 hs' => ?_)
    replace sl0 := gs 0 hs' sl0; replace sl3 := gs 3 hs' sl3; replace sl4 := gs 4 hs' sl4; replace sl5 := gu 5 hs'; replace sl17 := gs 17 hs' sl17; replace sl18 := gs 18 hs' sl18
    replace sl19 := gs 19 hs' sl19; replace sl20 := gs 20 hs' sl20; replace sl21 := gs 21 hs' sl21; replace sl22 := gs 22 hs' sl22; replace sl23 := gs 23 hs' sl23; replace sl24 := gs 24 hs' sl24
    replace sl25 := gs 25 hs' sl25; replace sl26 := gs 26 hs' sl26; replace sl27 := gs 27 hs' sl27; clear hs' sl28
    refine listF_nil ?_
    repeat ((fail_if_success refine stp ?_); with_reducible go_step)
    refine ⟨_, _, rfl, ?_, k + 1, rfl, (by first | (with_reducible exact sl5) | (rw [sl5]; (with_reducible go_num); done) | (rw [sl5, IntWalk.i64_in] <;> first | ((with_reducible go_num); done) | omega) | (rw [sl5]; go_num; done) | (rw [sl5]; simp; done) | (rw [sl5]; simp; omega)), (sl0.trans hc1_0.out.symm), (sl3.trans hc1_3.out.symm), (sl4.trans hc1_4.out.symm), HL13.out, by omega, hid (fun j hj hjk => by rcases Nat.lt_or_ge j k with h | h <;> first | exact hks.out j hj h | (have e : j = k := (by omega); subst e; exact Hle.out))⟩
    omega
   ·skip
    have Hgt := hid (show ∀ (h : k < ls.length), ¬ ls[k].hour ≤ l[i].hour from fun _ => by simpa using h28)
    repeat ((fail_if_success refine stp ?_); with_reducible go_step)
    clear HL13
    clear hc1_0 hc1_3 hc1_4
    have Hnx := hid (show (ls.take k ++ [l[i]] ++ ls.drop k) = sortC (l.take (i + 1)) by rw [sortC_step hlt, ← hls.out]; exact (insC_at hkl hks.out Hgt.out).symm)
    obtain ⟨ad, cd, hsr, hsd⟩ := slice_from a3 ls.length c3 k hkl hcap
    have htk : (ls.take k).length = k := by rw [List.length_take]; omega
    have hdk : (ls.drop k).length = ls.length - k := by rw [List.length_drop]
    have hki : (k : Int) ≤ (c3 : Int) := by omega
    (try clear hk); (try clear hk'); (try clear ha3)
    ·skip
     have hszb := HB.out.size
     have hbl := HB.out.toBelow
     have Hbl := hid hbl
     clear hbl
     refine cut_any (fun sJ wJ => ∃ v3', sJ 0 = .slice (some ⟨b, off, none⟩) l.length c ∧ sJ 3 = v3' ∧ sJ 4 = .int .i64 (i : Int) ∧ Own MCk.cs 3 74 w.heap.size wJ v3' (ls.take k ++ [l[i]] ++ ls.drop k) ∧ Below w.heap.size w wJ) ?_ ?_
     · refine regionI_F (fun (LJ : Nat → Bool) (sJ : Nat → Value) (wJ : World) => (LJ 4 = true → LJ 0 = true) ∧ (LJ 10 = true → LJ 4 = true) ∧ (LJ 14 = true → LJ 10 = true) ∧ Below w.heap.size w wJ ∧ w.heap.size ≤ wJ.heap.size ∧ (LJ 15 = true → LJ 1 = true) ∧ (LJ 15 = true → LJ 11 = true) ∧ (LJ 15 = true → LJ 14 = true) ∧ sJ 0 = .slice (some ⟨b, off, none⟩) l.length c ∧ sJ 4 = .int .i64 (i : Int) ∧ sJ 5 = .int .i64 (k : Int) ∧ (LJ 15 = false → sJ 3 = .slice a3 ls.length c3) ∧ (LJ 15 = true → sJ 3 = sJ 45) ∧ (LJ 1 = true → sJ 32 = .slice a3 ls.length c3) ∧ (LJ 2 = true → sJ 33 = .int .i64 (k : Int)) ∧ (LJ 3 = true → sJ 34 = .slice a3 k c3) ∧ (LJ 5 = true → sJ 36 = .slice (some ⟨b, off, none⟩) l.length c) ∧ (LJ 6 = true → sJ 37 = .int .i64 (i : Int)) ∧ (LJ 7 = true → sJ 38 = .pointer (some ⟨b, off + i * 3, none⟩)) ∧ (LJ 8 = true → sJ 39 = .agg #[.int .i64 l[i].hour, .int .i64 l[i].volt, .bool l[i].passed]) ∧ (LJ 11 = true → sJ 42 = .slice a3 ls.length c3) ∧ (LJ 12 = true → sJ 43 = .int .i64 (k : Int)) ∧ (LJ 13 = true → sJ 44 = .slice ad (ls.length - k) cd) ∧ (Own MCk.cs 3 74 w.heap.size wJ (.slice a3 ls.length c3) ls) ∧ (LJ 0 = true → LJ 4 = false → Own MCk.cs 3 74 w.heap.size wJ (sJ 31) ([] : List MCk)) ∧ (LJ 4 = true → LJ 10 = false → Own MCk.cs 3 74 w.heap.size wJ (sJ 35) (ls.take k)) ∧ (LJ 9 = true → Own MCk.cs 3 74 w.heap.size wJ (sJ 40) [l[i]]) ∧ (LJ 10 = true → LJ 14 = false → Own MCk.cs 3 74 w.heap.size wJ (sJ 41) (ls.take k ++ [l[i]])) ∧ (LJ 14 = true → Own MCk.cs 3 74 w.heap.size wJ (sJ 45) (ls.take k ++ [l[i]] ++ ls.drop k)) ∧ (LJ 0 = true → LJ 4 = false → Apart (.slice a3 ls.length c3) (sJ 31)) ∧ (LJ 4 = true → LJ 10 = false → Apart (.slice a3 ls.length c3) (sJ 35)) ∧ (LJ 9 = true → Apart (.slice a3 ls.length c3) (sJ 40)) ∧ (LJ 10 = true → LJ 14 = false → Apart (.slice a3 ls.length c3) (sJ 41)) ∧ (LJ 14 = true → Apart (.slice a3 ls.length c3) (sJ 45)) ∧ (LJ 0 = true → LJ 4 = false → LJ 9 = true → Apart (sJ 31) (sJ 40)) ∧ (LJ 4 = true → LJ 10 = false → LJ 9 = true → Apart (sJ 35) (sJ 40)) ∧ (LJ 9 = true → LJ 10 = true → LJ 14 = false → Apart (sJ 40) (sJ 41)) ∧ (LJ 9 = true → LJ 14 = true → Apart (sJ 40) (sJ 45))) (by kernel_rfl) (by kernel_rfl) (by kernel_rfl) ?_ ?_ ⟨?_, ?_, ?_, ?_, ?_, ?_, ?_, ?_, ?_, ?_, ?_, ?_, ?_, ?_, ?_, ?_, trivial⟩
       · refine ⟨(by simp), (by simp), (by simp), (by repeat (first | (with_reducible exact Hbl.out) | (with_reducible refine bdrewN ?_ _) | (with_reducible refine Below.drew ?_) | (with_reducible refine Below.setCell ?_ (by first | omega | (simp; done) | (simp; omega)) _) | (with_reducible refine Below.alloc ?_ (by first | omega | (simp; done) | (simp; omega)) _))), (by first | omega | (simp; done) | (simp; omega)), (by simp), (by simp), (by simp), ?_, ?_, ?_, fun _ => ?_, (by simp), (by simp), (by simp), (by simp), (by simp), (by simp), (by simp), (by simp), (by simp), (by simp), (by simp), (hO3), (by simp), (by simp), (by simp), (by simp), (by simp), (by simp), (by simp), (by simp), (by simp), (by simp), (by simp), (by simp), (by simp), (by simp)⟩
         · go_simp
         · go_simp
         · go_simp
         · go_simp
       · rintro sJ wJ ⟨kQ4, kQ10, kQ14, kLow, kSz, kZ15_1, kZ15_11, kZ15_14, hs0, hs4, hs5, ht3, hu3, hv1, hv2, hv3, hv5, hv6, hv7, hv8, hv11, hv12, hv13, kP0, kW0, kW4, kW9, kW10, kW14, kEP0_W0, kEP0_W4, kEP0_W9, kEP0_W10, kEP0_W14, kEW0_W9, kEW4_W9, kEW9_W10, kEW9_W14⟩
         clear kQ4
         clear kQ10
         clear kQ14
         clear kZ15_1
         clear kZ15_11
         clear kZ15_14
         replace ht3 := hu3 (by simp)
         clear hu3
         replace hv1 := hv1 (by simp)
         replace hv2 := hv2 (by simp)
         replace hv3 := hv3 (by simp)
         replace hv5 := hv5 (by simp)
         replace hv6 := hv6 (by simp)
         replace hv7 := hv7 (by simp)
         replace hv8 := hv8 (by simp)
         replace hv11 := hv11 (by simp)
         replace hv12 := hv12 (by simp)
         replace hv13 := hv13 (by simp)
         skip
         clear kW0
         clear kW4
         replace kW9 := kW9 (by simp)
         clear kW10
         replace kW14 := kW14 (by simp)
         clear kEP0_W0
         clear kEP0_W4
         replace kEP0_W9 := kEP0_W9 (by simp)
         clear kEP0_W10
         replace kEP0_W14 := kEP0_W14 (by simp)
         clear kEW0_W9
         clear kEW4_W9
         clear kEW9_W10
         replace kEW9_W14 := kEW9_W14 (by simp) (by simp)
         exact ⟨rfl, _, rfl, sJ 45, by go_simp, by go_simp, by go_simp, kW14, kLow⟩
       · rintro LJ sJ wJ hL hd ⟨kQ4, kQ10, kQ14, kLow, kSz, kZ15_1, kZ15_11, kZ15_14, hs0, hs4, hs5, ht3, hu3, hv1, hv2, hv3, hv5, hv6, hv7, hv8, hv11, hv12, hv13, kP0, kW0, kW4, kW9, kW10, kW14, kEP0_W0, kEP0_W4, kEP0_W9, kEP0_W10, kEP0_W14, kEW0_W9, kEW4_W9, kEW9_W10, kEW9_W14⟩ K hK
         clear hd
         rw [if_pos (by rfl)]
         unfold opF
         go_simp
         exact hK _ _ ⟨(by simp [upd]), (by simpa [upd] using kQ10), (by simpa [upd] using kQ14), (kLow.alloc (by omega) _), (by first | omega | (simp; done) | (simp; omega) | (have := hG.size; omega)), (by simpa [upd] using kZ15_1), (by simpa [upd] using kZ15_11), (by simpa [upd] using kZ15_14), (by simpa [upd, updS] using hs0), (by simpa [upd, updS] using hs4), (by simpa [upd, updS] using hs5), (by simpa [upd, updS] using ht3), (by simpa [upd, updS] using hu3), (by simpa [upd, updS] using hv1), (by simpa [upd, updS] using hv2), (by simpa [upd, updS] using hv3), (by simpa [upd, updS] using hv5), (by simpa [upd, updS] using hv6), (by simpa [upd, updS] using hv7), (by simpa [upd, updS] using hv8), (by simpa [upd, updS] using hv11), (by simpa [upd, updS] using hv12), (by simpa [upd, updS] using hv13), (by simpa [updS] using Own.alloc kP0 _), (fun _ _ => by first | exact Own.lit (by omega) (by unfold maxLen; simp) (by rfl) (fun _ => rfl) | (simp only [updS_some, ↓reduceIte]; exact Own.lit (by omega) (by unfold maxLen; simp) (by rfl) (fun _ => rfl)) | (simpa [updS] using Own.lit (by omega) (by unfold maxLen; simp) (by rfl) (fun _ => rfl))), (fun h1 h2 => by have h1 := (by simpa [upd] using h1 : LJ 4 = true); have h2 := (by simpa [upd] using h2 : LJ 10 = false); simpa [updS] using Own.alloc (kW4 h1 h2) _), (fun h1 => by have h1 := (by simpa [upd] using h1 : LJ 9 = true); simpa [updS] using Own.alloc (kW9 h1) _), (fun h1 h2 => by have h1 := (by simpa [upd] using h1 : LJ 10 = true); have h2 := (by simpa [upd] using h2 : LJ 14 = false); simpa [updS] using Own.alloc (kW10 h1 h2) _), (fun h1 => by have h1 := (by simpa [upd] using h1 : LJ 14 = true); simpa [updS] using Own.alloc (kW14 h1) _), (fun h1 h2 => by have h2 := (by simpa [upd] using h2 : LJ 4 = false); simpa [updS] using Apart.new kP0 _ _), (fun h1 h2 => by have h1 := (by simpa [upd] using h1 : LJ 4 = true); have h2 := (by simpa [upd] using h2 : LJ 10 = false); simpa [updS] using kEP0_W4 h1 h2), (fun h1 => by have h1 := (by simpa [upd] using h1 : LJ 9 = true); simpa [updS] using kEP0_W9 h1), (fun h1 h2 => by have h1 := (by simpa [upd] using h1 : LJ 10 = true); have h2 := (by simpa [upd] using h2 : LJ 14 = false); simpa [updS] using kEP0_W10 h1 h2), (fun h1 => by have h1 := (by simpa [upd] using h1 : LJ 14 = true); simpa [updS] using kEP0_W14 h1), (fun h1 h2 h3 => by have h2 := (by simpa [upd] using h2 : LJ 4 = false); have h3 := (by simpa [upd] using h3 : LJ 9 = true); simpa [updS] using (Apart.new (kW9 h3) _ _).symm), (fun h1 h2 h3 => by have h1 := (by simpa [upd] using h1 : LJ 4 = true); have h2 := (by simpa [upd] using h2 : LJ 10 = false); have h3 := (by simpa [upd] using h3 : LJ 9 = true); simpa [updS] using kEW4_W9 h1 h2 h3), (fun h1 h2 h3 => by have h1 := (by simpa [upd] using h1 : LJ 9 = true); have h2 := (by simpa [upd] using h2 : LJ 10 = true); have h3 := (by simpa [upd] using h3 : LJ 14 = false); simpa [updS] using kEW9_W10 h1 h2 h3), (fun h1 h2 => by have h1 := (by simpa [upd] using h1 : LJ 9 = true); have h2 := (by simpa [upd] using h2 : LJ 14 = true); simpa [updS] using kEW9_W14 h1 h2)⟩
       · rintro LJ sJ wJ hL hd ⟨kQ4, kQ10, kQ14, kLow, kSz, kZ15_1, kZ15_11, kZ15_14, hs0, hs4, hs5, ht3, hu3, hv1, hv2, hv3, hv5, hv6, hv7, hv8, hv11, hv12, hv13, kP0, kW0, kW4, kW9, kW10, kW14, kEP0_W0, kEP0_W4, kEP0_W9, kEP0_W10, kEP0_W14, kEW0_W9, kEW4_W9, kEW9_W10, kEW9_W14⟩ K hK
         clear hd
         rw [if_pos (by rfl)]
         unfold opF
         have gt3 := ht3 (by cases hh : LJ 15 with | false => rfl | true => exact absurd (kZ15_1 hh) (by rw [hL]; decide))
         go_simp
         refine hK _ _ ⟨?_, ?_, ?_, ?_, ?_, ?_, ?_, ?_, ?_, ?_, ?_, ?_, ?_, ?_, ?_, ?_, ?_, ?_, ?_, ?_, ?_, ?_, ?_, ?_, ?_, ?_, ?_, ?_, ?_, ?_, ?_, ?_, ?_, ?_, ?_, ?_, ?_, ?_⟩ <;> first | assumption | (simp [upd, updS]; done) | (simp [upd, updS]; assumption)
       · rintro LJ sJ wJ hL hd ⟨kQ4, kQ10, kQ14, kLow, kSz, kZ15_1, kZ15_11, kZ15_14, hs0, hs4, hs5, ht3, hu3, hv1, hv2, hv3, hv5, hv6, hv7, hv8, hv11, hv12, hv13, kP0, kW0, kW4, kW9, kW10, kW14, kEP0_W0, kEP0_W4, kEP0_W9, kEP0_W10, kEP0_W14, kEW0_W9, kEW4_W9, kEW9_W10, kEW9_W14⟩ K hK
         clear hd
         rw [if_pos (by rfl)]
         unfold opF
         go_simp
         refine hK _ _ ⟨?_, ?_, ?_, ?_, ?_, ?_, ?_, ?_, ?_, ?_, ?_, ?_, ?_, ?_, ?_, ?_, ?_, ?_, ?_, ?_, ?_, ?_, ?_, ?_, ?_, ?_, ?_, ?_, ?_, ?_, ?_, ?_, ?_, ?_, ?_, ?_, ?_, ?_⟩ <;> first | assumption | (simp [upd, updS]; done) | (simp [upd, updS]; assumption)
       · rintro LJ sJ wJ hL hd ⟨kQ4, kQ10, kQ14, kLow, kSz, kZ15_1, kZ15_11, kZ15_14, hs0, hs4, hs5, ht3, hu3, hv1, hv2, hv3, hv5, hv6, hv7, hv8, hv11, hv12, hv13, kP0, kW0, kW4, kW9, kW10, kW14, kEP0_W0, kEP0_W4, kEP0_W9, kEP0_W10, kEP0_W14, kEW0_W9, kEW4_W9, kEW9_W10, kEW9_W14⟩ K hK
         have ga1 := hd ⟨1, .data⟩ (by simp) rfl
         have gv1 := hv1 ga1
         have ga2 := hd ⟨2, .data⟩ (by simp) rfl
         have gv2 := hv2 ga2
         clear hd
         rw [if_pos (by rfl)]
         unfold opF
         go_simp
         refine hK _ _ ⟨?_, ?_, ?_, ?_, ?_, ?_, ?_, ?_, ?_, ?_, ?_, ?_, ?_, ?_, ?_, ?_, ?_, ?_, ?_, ?_, ?_, ?_, ?_, ?_, ?_, ?_, ?_, ?_, ?_, ?_, ?_, ?_, ?_, ?_, ?_, ?_, ?_, ?_⟩ <;> first | assumption | (simp [upd, updS]; done) | (simp [upd, updS]; assumption)
       · rintro LJ sJ wJ hL hd ⟨kQ4, kQ10, kQ14, kLow, kSz, kZ15_1, kZ15_11, kZ15_14, hs0, hs4, hs5, ht3, hu3, hv1, hv2, hv3, hv5, hv6, hv7, hv8, hv11, hv12, hv13, kP0, kW0, kW4, kW9, kW10, kW14, kEP0_W0, kEP0_W4, kEP0_W9, kEP0_W10, kEP0_W14, kEW0_W9, kEW4_W9, kEW9_W10, kEW9_W14⟩ K hK
         have ga0 := hd ⟨0, .data⟩ (by simp) rfl
         have ga3 := hd ⟨3, .data⟩ (by simp) rfl
         have gv3 := hv3 ga3
         clear hd
         rw [if_pos (by rfl)]
         have hcj : LJ 4 = false := hL
         have kWx := kW0 ga0 hcj
         refine opF_app (d := 35) rfl (by decide) (.tmp 31) (.tmp 34) _ rfl 74 i0 _ 24 Try.underlying33 hi0 hz0 hz1 hz2 rfl (by decide) (fun _ => rfl) ck_one w.heap.size (sJ 31) ([] : List MCk) (ls.take k) a3 c3 (by go_simp) (by go_simp) kWx (Rd.takeK (Own.rd' (f := MCk.cs) (m := 3) (fun _ => rfl) kP0 rfl) k) (by simp; unfold maxLen; omega) (by simp; omega) (by omega) (fun v' w' hO hG hV => ?_)
         exact hK _ _ ⟨(by simp [upd]; exact ga0), (by simp [upd]), (by simpa [upd] using kQ14), (low_grown kLow hG (by omega) (fun k hk => by have := (World.ownsRow.lt kWx k hk).1; omega)), (by first | omega | (simp; done) | (simp; omega) | (have := hG.size; omega)), (by simpa [upd] using kZ15_1), (by simpa [upd] using kZ15_11), (by simpa [upd] using kZ15_14), (by simpa [upd, updS] using hs0), (by simpa [upd, updS] using hs4), (by simpa [upd, updS] using hs5), (by simpa [upd, updS] using ht3), (by simpa [upd, updS] using hu3), (by simpa [upd, updS] using hv1), (by simpa [upd, updS] using hv2), (by simpa [upd, updS] using hv3), (by simpa [upd, updS] using hv5), (by simpa [upd, updS] using hv6), (by simpa [upd, updS] using hv7), (by simpa [upd, updS] using hv8), (by simpa [upd, updS] using hv11), (by simpa [upd, updS] using hv12), (by simpa [upd, updS] using hv13), (by simpa [updS] using Own.grown kP0 hG (kEP0_W0 ga0 hcj)), (fun h1 h2 => by simp [upd] at h2), (fun _ _ => by first | exact hO | (simp only [updS_some, ↓reduceIte]; exact hO) | (simpa [updS] using hO)), (fun h1 => by have h1 := (by simpa [upd] using h1 : LJ 9 = true); simpa [updS] using Own.grown (kW9 h1) hG (kEW0_W9 ga0 hcj h1).symm), (fun h1 h2 => by have h1 := (by simpa [upd] using h1 : LJ 10 = true); have h2 := (by simpa [upd] using h2 : LJ 14 = false); exact absurd (kQ10 h1) (by rw [hL]; decide)), (fun h1 => by have h1 := (by simpa [upd] using h1 : LJ 14 = true); exact absurd (kQ10 (kQ14 h1)) (by rw [hL]; decide)), (fun h1 h2 => by simp [upd] at h2), (fun h1 h2 => by have h2 := (by simpa [upd] using h2 : LJ 10 = false); simpa [updS] using Apart.app kP0 (kEP0_W0 ga0 hcj) hV), (fun h1 => by have h1 := (by simpa [upd] using h1 : LJ 9 = true); simpa [updS] using kEP0_W9 h1), (fun h1 h2 => by have h1 := (by simpa [upd] using h1 : LJ 10 = true); have h2 := (by simpa [upd] using h2 : LJ 14 = false); simpa [updS] using kEP0_W10 h1 h2), (fun h1 => by have h1 := (by simpa [upd] using h1 : LJ 14 = true); simpa [updS] using kEP0_W14 h1), (fun h1 h2 h3 => by simp [upd] at h2), (fun h1 h2 h3 => by have h2 := (by simpa [upd] using h2 : LJ 10 = false); have h3 := (by simpa [upd] using h3 : LJ 9 = true); simpa [updS] using (Apart.app (kW9 h3) (kEW0_W9 ga0 hcj h3).symm hV).symm), (fun h1 h2 h3 => by have h1 := (by simpa [upd] using h1 : LJ 9 = true); have h2 := (by simpa [upd] using h2 : LJ 10 = true); have h3 := (by simpa [upd] using h3 : LJ 14 = false); simpa [updS] using kEW9_W10 h1 h2 h3), (fun h1 h2 => by have h1 := (by simpa [upd] using h1 : LJ 9 = true); have h2 := (by simpa [upd] using h2 : LJ 14 = true); simpa [updS] using kEW9_W14 h1 h2)⟩
       · rintro LJ sJ wJ hL hd ⟨kQ4, kQ10, kQ14, kLow, kSz, kZ15_1, kZ15_11, kZ15_14, hs0, hs4, hs5, ht3, hu3, hv1, hv2, hv3, hv5, hv6, hv7, hv8, hv11, hv12, hv13, kP0, kW0, kW4, kW9, kW10, kW14, kEP0_W0, kEP0_W4, kEP0_W9, kEP0_W10, kEP0_W14, kEW0_W9, kEW4_W9, kEW9_W10, kEW9_W14⟩ K hK
         clear hd
         rw [if_pos (by rfl)]
         unfold opF
         go_simp
         refine hK _ _ ⟨?_, ?_, ?_, ?_, ?_, ?_, ?_, ?_, ?_, ?_, ?_, ?_, ?_, ?_, ?_, ?_, ?_, ?_, ?_, ?_, ?_, ?_, ?_, ?_, ?_, ?_, ?_, ?_, ?_, ?_, ?_, ?_, ?_, ?_, ?_, ?_, ?_, ?_⟩ <;> first | assumption | (simp [upd, updS]; done) | (simp [upd, updS]; assumption)
       · rintro LJ sJ wJ hL hd ⟨kQ4, kQ10, kQ14, kLow, kSz, kZ15_1, kZ15_11, kZ15_14, hs0, hs4, hs5, ht3, hu3, hv1, hv2, hv3, hv5, hv6, hv7, hv8, hv11, hv12, hv13, kP0, kW0, kW4, kW9, kW10, kW14, kEP0_W0, kEP0_W4, kEP0_W9, kEP0_W10, kEP0_W14, kEW0_W9, kEW4_W9, kEW9_W10, kEW9_W14⟩ K hK
         clear hd
         rw [if_pos (by rfl)]
         unfold opF
         go_simp
         refine hK _ _ ⟨?_, ?_, ?_, ?_, ?_, ?_, ?_, ?_, ?_, ?_, ?_, ?_, ?_, ?_, ?_, ?_, ?_, ?_, ?_, ?_, ?_, ?_, ?_, ?_, ?_, ?_, ?_, ?_, ?_, ?_, ?_, ?_, ?_, ?_, ?_, ?_, ?_, ?_⟩ <;> first | assumption | (simp [upd, updS]; done) | (simp [upd, updS]; assumption)
       · rintro LJ sJ wJ hL hd ⟨kQ4, kQ10, kQ14, kLow, kSz, kZ15_1, kZ15_11, kZ15_14, hs0, hs4, hs5, ht3, hu3, hv1, hv2, hv3, hv5, hv6, hv7, hv8, hv11, hv12, hv13, kP0, kW0, kW4, kW9, kW10, kW14, kEP0_W0, kEP0_W4, kEP0_W9, kEP0_W10, kEP0_W14, kEW0_W9, kEW4_W9, kEW9_W10, kEW9_W14⟩ K hK
         have ga5 := hd ⟨5, .data⟩ (by simp) rfl
         have gv5 := hv5 ga5
         have ga6 := hd ⟨6, .data⟩ (by simp) rfl
         have gv6 := hv6 ga6
         clear hd
         rw [if_pos (by rfl)]
         unfold opF
         go_simp
         refine hK _ _ ⟨?_, ?_, ?_, ?_, ?_, ?_, ?_, ?_, ?_, ?_, ?_, ?_, ?_, ?_, ?_, ?_, ?_, ?_, ?_, ?_, ?_, ?_, ?_, ?_, ?_, ?_, ?_, ?_, ?_, ?_, ?_, ?_, ?_, ?_, ?_, ?_, ?_, ?_⟩ <;> first | assumption | (simp [upd, updS]; done) | (simp [upd, updS]; assumption)
       · rintro LJ sJ wJ hL hd ⟨kQ4, kQ10, kQ14, kLow, kSz, kZ15_1, kZ15_11, kZ15_14, hs0, hs4, hs5, ht3, hu3, hv1, hv2, hv3, hv5, hv6, hv7, hv8, hv11, hv12, hv13, kP0, kW0, kW4, kW9, kW10, kW14, kEP0_W0, kEP0_W4, kEP0_W9, kEP0_W10, kEP0_W14, kEW0_W9, kEW4_W9, kEW9_W10, kEW9_W14⟩ K hK
         have ga7 := hd ⟨7, .data⟩ (by simp) rfl
         have gv7 := hv7 ga7
         clear hd
         rw [if_pos (by rfl)]
         unfold opF
         obtain ⟨hcq, hfq⟩ := bcell kLow
         go_simp
         refine hK _ _ ⟨?_, ?_, ?_, ?_, ?_, ?_, ?_, ?_, ?_, ?_, ?_, ?_, ?_, ?_, ?_, ?_, ?_, ?_, ?_, ?_, ?_, ?_, ?_, ?_, ?_, ?_, ?_, ?_, ?_, ?_, ?_, ?_, ?_, ?_, ?_, ?_, ?_, ?_⟩ <;> first | assumption | (simp [upd, updS]; done) | (simp [upd, updS]; assumption)
       · rintro LJ sJ wJ hL hd ⟨kQ4, kQ10, kQ14, kLow, kSz, kZ15_1, kZ15_11, kZ15_14, hs0, hs4, hs5, ht3, hu3, hv1, hv2, hv3, hv5, hv6, hv7, hv8, hv11, hv12, hv13, kP0, kW0, kW4, kW9, kW10, kW14, kEP0_W0, kEP0_W4, kEP0_W9, kEP0_W10, kEP0_W14, kEW0_W9, kEW4_W9, kEW9_W10, kEW9_W14⟩ K hK
         have ga8 := hd ⟨8, .data⟩ (by simp) rfl
         have gv8 := hv8 ga8
         clear hd
         rw [if_pos (by rfl)]
         unfold opF
         go_simp
         exact hK _ _ ⟨(by simpa [upd] using kQ4), (by simpa [upd] using kQ10), (by simpa [upd] using kQ14), (kLow.alloc (by omega) _), (by first | omega | (simp; done) | (simp; omega) | (have := hG.size; omega)), (by simpa [upd] using kZ15_1), (by simpa [upd] using kZ15_11), (by simpa [upd] using kZ15_14), (by simpa [upd, updS] using hs0), (by simpa [upd, updS] using hs4), (by simpa [upd, updS] using hs5), (by simpa [upd, updS] using ht3), (by simpa [upd, updS] using hu3), (by simpa [upd, updS] using hv1), (by simpa [upd, updS] using hv2), (by simpa [upd, updS] using hv3), (by simpa [upd, updS] using hv5), (by simpa [upd, updS] using hv6), (by simpa [upd, updS] using hv7), (by simpa [upd, updS] using hv8), (by simpa [upd, updS] using hv11), (by simpa [upd, updS] using hv12), (by simpa [upd, updS] using hv13), (by simpa [updS] using Own.alloc kP0 _), (fun h1 h2 => by have h1 := (by simpa [upd] using h1 : LJ 0 = true); have h2 := (by simpa [upd] using h2 : LJ 4 = false); simpa [updS] using Own.alloc (kW0 h1 h2) _), (fun h1 h2 => by have h1 := (by simpa [upd] using h1 : LJ 4 = true); have h2 := (by simpa [upd] using h2 : LJ 10 = false); simpa [updS] using Own.alloc (kW4 h1 h2) _), (fun _ => by first | exact Own.lit (by omega) (by unfold maxLen; simp) (by rfl) (fun _ => rfl) | (simp only [updS_some, ↓reduceIte]; exact Own.lit (by omega) (by unfold maxLen; simp) (by rfl) (fun _ => rfl)) | (simpa [updS] using Own.lit (by omega) (by unfold maxLen; simp) (by rfl) (fun _ => rfl))), (fun h1 h2 => by have h1 := (by simpa [upd] using h1 : LJ 10 = true); have h2 := (by simpa [upd] using h2 : LJ 14 = false); simpa [updS] using Own.alloc (kW10 h1 h2) _), (fun h1 => by have h1 := (by simpa [upd] using h1 : LJ 14 = true); simpa [updS] using Own.alloc (kW14 h1) _), (fun h1 h2 => by have h1 := (by simpa [upd] using h1 : LJ 0 = true); have h2 := (by simpa [upd] using h2 : LJ 4 = false); simpa [updS] using kEP0_W0 h1 h2), (fun h1 h2 => by have h1 := (by simpa [upd] using h1 : LJ 4 = true); have h2 := (by simpa [upd] using h2 : LJ 10 = false); simpa [updS] using kEP0_W4 h1 h2), (fun h1 => by simpa [updS] using Apart.new kP0 _ _), (fun h1 h2 => by have h1 := (by simpa [upd] using h1 : LJ 10 = true); have h2 := (by simpa [upd] using h2 : LJ 14 = false); simpa [updS] using kEP0_W10 h1 h2), (fun h1 => by have h1 := (by simpa [upd] using h1 : LJ 14 = true); simpa [updS] using kEP0_W14 h1), (fun h1 h2 h3 => by have h1 := (by simpa [upd] using h1 : LJ 0 = true); have h2 := (by simpa [upd] using h2 : LJ 4 = false); simpa [updS] using Apart.new (kW0 h1 h2) _ _), (fun h1 h2 h3 => by have h1 := (by simpa [upd] using h1 : LJ 4 = true); have h2 := (by simpa [upd] using h2 : LJ 10 = false); simpa [updS] using Apart.new (kW4 h1 h2) _ _), (fun h1 h2 h3 => by have h2 := (by simpa [upd] using h2 : LJ 10 = true); have h3 := (by simpa [upd] using h3 : LJ 14 = false); simpa [updS] using (Apart.new (kW10 h2 h3) _ _).symm), (fun h1 h2 => by have h2 := (by simpa [upd] using h2 : LJ 14 = true); simpa [updS] using (Apart.new (kW14 h2) _ _).symm)⟩
       · rintro LJ sJ wJ hL hd ⟨kQ4, kQ10, kQ14, kLow, kSz, kZ15_1, kZ15_11, kZ15_14, hs0, hs4, hs5, ht3, hu3, hv1, hv2, hv3, hv5, hv6, hv7, hv8, hv11, hv12, hv13, kP0, kW0, kW4, kW9, kW10, kW14, kEP0_W0, kEP0_W4, kEP0_W9, kEP0_W10, kEP0_W14, kEW0_W9, kEW4_W9, kEW9_W10, kEW9_W14⟩ K hK
         have ga4 := hd ⟨4, .data⟩ (by simp) rfl
         have ga9 := hd ⟨9, .data⟩ (by simp) rfl
         have ga4 := hd ⟨4, .chain⟩ (by simp) rfl
         clear hd
         rw [if_pos (by rfl)]
         have hcj : LJ 10 = false := hL
         have kWx := kW4 ga4 hcj
         have kWy := kW9 ga9
         obtain ⟨ay, cy, hvy, hry, hny⟩ := Own.slice (f := MCk.cs) (m := 3) (fun _ => rfl) kWy
         refine opF_app (d := 41) rfl (by decide) (.tmp 35) (.tmp 40) _ rfl 74 i0 _ 24 Try.underlying33 hi0 hz0 hz1 hz2 rfl (by decide) (fun _ => rfl) ck_one w.heap.size (sJ 35) (ls.take k) [l[i]] ay cy (by go_simp) (by simpa using hvy) kWx hry (by simp; unfold maxLen; omega) (by simp; omega) (by omega) (fun v' w' hO hG hV => ?_)
         exact hK _ _ ⟨(by simpa [upd] using kQ4), (by simp [upd]; exact ga4), (by simp [upd]), (low_grown kLow hG (by omega) (fun k hk => by have := (World.ownsRow.lt kWx k hk).1; omega)), (by first | omega | (simp; done) | (simp; omega) | (have := hG.size; omega)), (by simpa [upd] using kZ15_1), (by simpa [upd] using kZ15_11), (by simpa [upd] using kZ15_14), (by simpa [upd, updS] using hs0), (by simpa [upd, updS] using hs4), (by simpa [upd, updS] using hs5), (by simpa [upd, updS] using ht3), (by simpa [upd, updS] using hu3), (by simpa [upd, updS] using hv1), (by simpa [upd, updS] using hv2), (by simpa [upd, updS] using hv3), (by simpa [upd, updS] using hv5), (by simpa [upd, updS] using hv6), (by simpa [upd, updS] using hv7), (by simpa [upd, updS] using hv8), (by simpa [upd, updS] using hv11), (by simpa [upd, updS] using hv12), (by simpa [upd, updS] using hv13), (by simpa [updS] using Own.grown kP0 hG (kEP0_W4 ga4 hcj)), (fun h1 h2 => by have h1 := (by simpa [upd] using h1 : LJ 0 = true); have h2 := (by simpa [upd] using h2 : LJ 4 = false); exact absurd ga4 (by rw [h2]; decide)), (fun h1 h2 => by simp [upd] at h2), (fun h1 => by have h1 := (by simpa [upd] using h1 : LJ 9 = true); simpa [updS] using Own.grown (kW9 h1) hG (kEW4_W9 ga4 hcj h1).symm), (fun _ _ => by first | exact hO | (simp only [updS_some, ↓reduceIte]; exact hO) | (simpa [updS] using hO)), (fun h1 => by have h1 := (by simpa [upd] using h1 : LJ 14 = true); exact absurd (kQ14 h1) (by rw [hL]; decide)), (fun h1 h2 => by have h1 := (by simpa [upd] using h1 : LJ 0 = true); have h2 := (by simpa [upd] using h2 : LJ 4 = false); simpa [updS] using kEP0_W0 h1 h2), (fun h1 h2 => by simp [upd] at h2), (fun h1 => by have h1 := (by simpa [upd] using h1 : LJ 9 = true); simpa [updS] using kEP0_W9 h1), (fun h1 h2 => by have h2 := (by simpa [upd] using h2 : LJ 14 = false); simpa [updS] using Apart.app kP0 (kEP0_W4 ga4 hcj) hV), (fun h1 => by have h1 := (by simpa [upd] using h1 : LJ 14 = true); simpa [updS] using kEP0_W14 h1), (fun h1 h2 h3 => by have h1 := (by simpa [upd] using h1 : LJ 0 = true); have h2 := (by simpa [upd] using h2 : LJ 4 = false); have h3 := (by simpa [upd] using h3 : LJ 9 = true); simpa [updS] using kEW0_W9 h1 h2 h3), (fun h1 h2 h3 => by simp [upd] at h2), (fun h1 h2 h3 => by have h1 := (by simpa [upd] using h1 : LJ 9 = true); have h3 := (by simpa [upd] using h3 : LJ 14 = false); simpa [updS] using Apart.app (kW9 h1) (kEW4_W9 ga4 hcj h1).symm hV), (fun h1 h2 => by have h1 := (by simpa [upd] using h1 : LJ 9 = true); have h2 := (by simpa [upd] using h2 : LJ 14 = true); simpa [updS] using kEW9_W14 h1 h2)⟩
       · rintro LJ sJ wJ hL hd ⟨kQ4, kQ10, kQ14, kLow, kSz, kZ15_1, kZ15_11, kZ15_14, hs0, hs4, hs5, ht3, hu3, hv1, hv2, hv3, hv5, hv6, hv7, hv8, hv11, hv12, hv13, kP0, kW0, kW4, kW9, kW10, kW14, kEP0_W0, kEP0_W4, kEP0_W9, kEP0_W10, kEP0_W14, kEW0_W9, kEW4_W9, kEW9_W10, kEW9_W14⟩ K hK
         clear hd
         rw [if_pos (by rfl)]
         unfold opF
         have gt3 := ht3 (by cases hh : LJ 15 with | false => rfl | true => exact absurd (kZ15_11 hh) (by rw [hL]; decide))
         go_simp
         refine hK _ _ ⟨?_, ?_, ?_, ?_, ?_, ?_, ?_, ?_, ?_, ?_, ?_, ?_, ?_, ?_, ?_, ?_, ?_, ?_, ?_, ?_, ?_, ?_, ?_, ?_, ?_, ?_, ?_, ?_, ?_, ?_, ?_, ?_, ?_, ?_, ?_, ?_, ?_, ?_⟩ <;> first | assumption | (simp [upd, updS]; done) | (simp [upd, updS]; assumption)
       · rintro LJ sJ wJ hL hd ⟨kQ4, kQ10, kQ14, kLow, kSz, kZ15_1, kZ15_11, kZ15_14, hs0, hs4, hs5, ht3, hu3, hv1, hv2, hv3, hv5, hv6, hv7, hv8, hv11, hv12, hv13, kP0, kW0, kW4, kW9, kW10, kW14, kEP0_W0, kEP0_W4, kEP0_W9, kEP0_W10, kEP0_W14, kEW0_W9, kEW4_W9, kEW9_W10, kEW9_W14⟩ K hK
         clear hd
         rw [if_pos (by rfl)]
         unfold opF
         go_simp
         refine hK _ _ ⟨?_, ?_, ?_, ?_, ?_, ?_, ?_, ?_, ?_, ?_, ?_, ?_, ?_, ?_, ?_, ?_, ?_, ?_, ?_, ?_, ?_, ?_, ?_, ?_, ?_, ?_, ?_, ?_, ?_, ?_, ?_, ?_, ?_, ?_, ?_, ?_, ?_, ?_⟩ <;> first | assumption | (simp [upd, updS]; done) | (simp [upd, updS]; assumption)
       · rintro LJ sJ wJ hL hd ⟨kQ4, kQ10, kQ14, kLow, kSz, kZ15_1, kZ15_11, kZ15_14, hs0, hs4, hs5, ht3, hu3, hv1, hv2, hv3, hv5, hv6, hv7, hv8, hv11, hv12, hv13, kP0, kW0, kW4, kW9, kW10, kW14, kEP0_W0, kEP0_W4, kEP0_W9, kEP0_W10, kEP0_W14, kEW0_W9, kEW4_W9, kEW9_W10, kEW9_W14⟩ K hK
         have ga11 := hd ⟨11, .data⟩ (by simp) rfl
         have gv11 := hv11 ga11
         have ga12 := hd ⟨12, .data⟩ (by simp) rfl
         have gv12 := hv12 ga12
         clear hd
         rw [if_pos (by rfl)]
         unfold opF
         go_simp
         refine hK _ _ ⟨?_, ?_, ?_, ?_, ?_, ?_, ?_, ?_, ?_, ?_, ?_, ?_, ?_, ?_, ?_, ?_, ?_, ?_, ?_, ?_, ?_, ?_, ?_, ?_, ?_, ?_, ?_, ?_, ?_, ?_, ?_, ?_, ?_, ?_, ?_, ?_, ?_, ?_⟩ <;> first | assumption | (simp [upd, updS]; done) | (simp [upd, updS]; assumption)
       · rintro LJ sJ wJ hL hd ⟨kQ4, kQ10, kQ14, kLow, kSz, kZ15_1, kZ15_11, kZ15_14, hs0, hs4, hs5, ht3, hu3, hv1, hv2, hv3, hv5, hv6, hv7, hv8, hv11, hv12, hv13, kP0, kW0, kW4, kW9, kW10, kW14, kEP0_W0, kEP0_W4, kEP0_W9, kEP0_W10, kEP0_W14, kEW0_W9, kEW4_W9, kEW9_W10, kEW9_W14⟩ K hK
         have ga10 := hd ⟨10, .data⟩ (by simp) rfl
         have ga13 := hd ⟨13, .data⟩ (by simp) rfl
         have gv13 := hv13 ga13
         have ga10 := hd ⟨10, .chain⟩ (by simp) rfl
         clear hd
         rw [if_pos (by rfl)]
         have hcj : LJ 14 = false := hL
         have kWx := kW10 ga10 hcj
         refine opF_app (d := 45) rfl (by decide) (.tmp 41) (.tmp 44) _ rfl 74 i0 _ 24 Try.underlying33 hi0 hz0 hz1 hz2 rfl (by decide) (fun _ => rfl) ck_one w.heap.size (sJ 41) (ls.take k ++ [l[i]]) (ls.drop k) ad cd (by go_simp) (by go_simp) kWx (hsd _ _ rfl (Own.rd' (f := MCk.cs) (m := 3) (fun _ => rfl) kP0 rfl)) (by simp; unfold maxLen; omega) (by simp; omega) (by omega) (fun v' w' hO hG hV => ?_)
         exact hK _ _ ⟨(by simpa [upd] using kQ4), (by simpa [upd] using kQ10), (by simp [upd]; exact ga10), (low_grown kLow hG (by omega) (fun k hk => by have := (World.ownsRow.lt kWx k hk).1; omega)), (by first | omega | (simp; done) | (simp; omega) | (have := hG.size; omega)), (by simpa [upd] using kZ15_1), (by simpa [upd] using kZ15_11), (by simp [upd]), (by simpa [upd, updS] using hs0), (by simpa [upd, updS] using hs4), (by simpa [upd, updS] using hs5), (by simpa [upd, updS] using ht3), (fun h => by have h := (by simpa [upd] using h : LJ 15 = true); exact absurd (kZ15_14 h) (by rw [hL]; decide)), (by simpa [upd, updS] using hv1), (by simpa [upd, updS] using hv2), (by simpa [upd, updS] using hv3), (by simpa [upd, updS] using hv5), (by simpa [upd, updS] using hv6), (by simpa [upd, updS] using hv7), (by simpa [upd, updS] using hv8), (by simpa [upd, updS] using hv11), (by simpa [upd, updS] using hv12), (by simpa [upd, updS] using hv13), (by simpa [updS] using Own.grown kP0 hG (kEP0_W10 ga10 hcj)), (fun h1 h2 => by have h1 := (by simpa [upd] using h1 : LJ 0 = true); have h2 := (by simpa [upd] using h2 : LJ 4 = false); exact absurd (kQ10 ga10) (by rw [h2]; decide)), (fun h1 h2 => by have h1 := (by simpa [upd] using h1 : LJ 4 = true); have h2 := (by simpa [upd] using h2 : LJ 10 = false); exact absurd ga10 (by rw [h2]; decide)), (fun h1 => by have h1 := (by simpa [upd] using h1 : LJ 9 = true); simpa [updS] using Own.grown (kW9 h1) hG (kEW9_W10 h1 ga10 hcj)), (fun h1 h2 => by simp [upd] at h2), (fun _ => by first | exact hO | (simp only [updS_some, ↓reduceIte]; exact hO) | (simpa [updS] using hO)), (fun h1 h2 => by have h1 := (by simpa [upd] using h1 : LJ 0 = true); have h2 := (by simpa [upd] using h2 : LJ 4 = false); simpa [updS] using kEP0_W0 h1 h2), (fun h1 h2 => by have h1 := (by simpa [upd] using h1 : LJ 4 = true); have h2 := (by simpa [upd] using h2 : LJ 10 = false); simpa [updS] using kEP0_W4 h1 h2), (fun h1 => by have h1 := (by simpa [upd] using h1 : LJ 9 = true); simpa [updS] using kEP0_W9 h1), (fun h1 h2 => by simp [upd] at h2), (fun h1 => by simpa [updS] using Apart.app kP0 (kEP0_W10 ga10 hcj) hV), (fun h1 h2 h3 => by have h1 := (by simpa [upd] using h1 : LJ 0 = true); have h2 := (by simpa [upd] using h2 : LJ 4 = false); have h3 := (by simpa [upd] using h3 : LJ 9 = true); simpa [updS] using kEW0_W9 h1 h2 h3), (fun h1 h2 h3 => by have h1 := (by simpa [upd] using h1 : LJ 4 = true); have h2 := (by simpa [upd] using h2 : LJ 10 = false); have h3 := (by simpa [upd] using h3 : LJ 9 = true); simpa [updS] using kEW4_W9 h1 h2 h3), (fun h1 h2 h3 => by simp [upd] at h3), (fun h1 h2 => by have h1 := (by simpa [upd] using h1 : LJ 9 = true); simpa [updS] using Apart.app (kW9 h1) (kEW9_W10 h1 ga10 hcj) hV)⟩
       · rintro LJ sJ wJ hL hd ⟨kQ4, kQ10, kQ14, kLow, kSz, kZ15_1, kZ15_11, kZ15_14, hs0, hs4, hs5, ht3, hu3, hv1, hv2, hv3, hv5, hv6, hv7, hv8, hv11, hv12, hv13, kP0, kW0, kW4, kW9, kW10, kW14, kEP0_W0, kEP0_W4, kEP0_W9, kEP0_W10, kEP0_W14, kEW0_W9, kEW4_W9, kEW9_W10, kEW9_W14⟩ K hK
         have ga14 := hd ⟨14, .data⟩ (by simp) rfl
         have ga14 := hd ⟨14, .chain⟩ (by simp) rfl
         have ga0 := hd ⟨0, .phase⟩ (by simp) rfl
         have ga1 := hd ⟨1, .phase⟩ (by simp) rfl
         have gv1 := hv1 ga1
         have ga2 := hd ⟨2, .phase⟩ (by simp) rfl
         have gv2 := hv2 ga2
         have ga3 := hd ⟨3, .phase⟩ (by simp) rfl
         have gv3 := hv3 ga3
         have ga4 := hd ⟨4, .phase⟩ (by simp) rfl
         have ga5 := hd ⟨5, .phase⟩ (by simp) rfl
         have gv5 := hv5 ga5
         have ga6 := hd ⟨6, .phase⟩ (by simp) rfl
         have gv6 := hv6 ga6
         have ga7 := hd ⟨7, .phase⟩ (by simp) rfl
         have gv7 := hv7 ga7
         have ga8 := hd ⟨8, .phase⟩ (by simp) rfl
         have gv8 := hv8 ga8
         have ga9 := hd ⟨9, .phase⟩ (by simp) rfl
         have ga10 := hd ⟨10, .phase⟩ (by simp) rfl
         have ga11 := hd ⟨11, .phase⟩ (by simp) rfl
         have gv11 := hv11 ga11
         have ga12 := hd ⟨12, .phase⟩ (by simp) rfl
         have gv12 := hv12 ga12
         have ga13 := hd ⟨13, .phase⟩ (by simp) rfl
         have gv13 := hv13 ga13
         have ga14 := hd ⟨14, .phase⟩ (by simp) rfl
         clear hd
         rw [if_pos (by rfl)]
         unfold opF
         go_simp
         exact hK _ _ ⟨(by simpa [upd] using kQ4), (by simpa [upd] using kQ10), (by simpa [upd] using kQ14), kLow, (by first | omega | (simp; done) | (simp; omega) | (have := hG.size; omega)), (by simp [upd]; exact ga1), (by simp [upd]; exact ga11), (by simp [upd]; exact ga14), (by simpa [upd, updS] using hs0), (by simpa [upd, updS] using hs4), (by simpa [upd, updS] using hs5), (by simp [upd]), (by simp [upd, updS]), (by simpa [upd, updS] using hv1), (by simpa [upd, updS] using hv2), (by simpa [upd, updS] using hv3), (by simpa [upd, updS] using hv5), (by simpa [upd, updS] using hv6), (by simpa [upd, updS] using hv7), (by simpa [upd, updS] using hv8), (by simpa [upd, updS] using hv11), (by simpa [upd, updS] using hv12), (by simpa [upd, updS] using hv13), (by simpa [updS] using kP0), (fun h1 h2 => by have h1 := (by simpa [upd] using h1 : LJ 0 = true); have h2 := (by simpa [upd] using h2 : LJ 4 = false); simpa [updS] using (kW0 h1 h2)), (fun h1 h2 => by have h1 := (by simpa [upd] using h1 : LJ 4 = true); have h2 := (by simpa [upd] using h2 : LJ 10 = false); simpa [updS] using (kW4 h1 h2)), (fun h1 => by have h1 := (by simpa [upd] using h1 : LJ 9 = true); simpa [updS] using (kW9 h1)), (fun h1 h2 => by have h1 := (by simpa [upd] using h1 : LJ 10 = true); have h2 := (by simpa [upd] using h2 : LJ 14 = false); simpa [updS] using (kW10 h1 h2)), (fun h1 => by have h1 := (by simpa [upd] using h1 : LJ 14 = true); simpa [updS] using (kW14 h1)), (fun h1 h2 => by have h1 := (by simpa [upd] using h1 : LJ 0 = true); have h2 := (by simpa [upd] using h2 : LJ 4 = false); simpa [updS] using kEP0_W0 h1 h2), (fun h1 h2 => by have h1 := (by simpa [upd] using h1 : LJ 4 = true); have h2 := (by simpa [upd] using h2 : LJ 10 = false); simpa [updS] using kEP0_W4 h1 h2), (fun h1 => by have h1 := (by simpa [upd] using h1 : LJ 9 = true); simpa [updS] using kEP0_W9 h1), (fun h1 h2 => by have h1 := (by simpa [upd] using h1 : LJ 10 = true); have h2 := (by simpa [upd] using h2 : LJ 14 = false); simpa [updS] using kEP0_W10 h1 h2), (fun h1 => by have h1 := (by simpa [upd] using h1 : LJ 14 = true); simpa [updS] using kEP0_W14 h1), (fun h1 h2 h3 => by have h1 := (by simpa [upd] using h1 : LJ 0 = true); have h2 := (by simpa [upd] using h2 : LJ 4 = false); have h3 := (by simpa [upd] using h3 : LJ 9 = true); simpa [updS] using kEW0_W9 h1 h2 h3), (fun h1 h2 h3 => by have h1 := (by simpa [upd] using h1 : LJ 4 = true); have h2 := (by simpa [upd] using h2 : LJ 10 = false); have h3 := (by simpa [upd] using h3 : LJ 9 = true); simpa [updS] using kEW4_W9 h1 h2 h3), (fun h1 h2 h3 => by have h1 := (by simpa [upd] using h1 : LJ 9 = true); have h2 := (by simpa [upd] using h2 : LJ 10 = true); have h3 := (by simpa [upd] using h3 : LJ 14 = false); simpa [updS] using kEW9_W10 h1 h2 h3), (fun h1 h2 => by have h1 := (by simpa [upd] using h1 : LJ 9 = true); have h2 := (by simpa [upd] using h2 : LJ 14 = true); simpa [updS] using kEW9_W14 h1 h2)⟩
     clear hO3 sl0 sl3 sl4 sl5 sl17 sl18 sl19 sl20 sl21 sl22 sl23 sl24 sl25 sl26 sl27 sl28
     rintro s8 w18 ⟨v3', sl0, sl3, sl4, hO3, hB8⟩
     have HB := hid (OldB.nil (Bs := []) hB8)
     have HL7 := HB
     obtain ⟨a4, c4, rfl, hr4, hn4⟩ := Own.slice (f := MCk.cs) (m := 3) (fun _ => rfl) hO3
     clear hr4 hn4 hB8
     have Hln := hid (show (ls.take k ++ [l[i]] ++ ls.drop k).length = i + 1 by simp; omega)
     replace sl0 := sl0
     repeat ((fail_if_success refine stp ?_); with_reducible go_step)
     refine region_F ?_
     refine pl ?_
     refine pl ?_
     refine pl ?_
     refine listF_abs (fun s20 hs' => ?_)
     replace sl0 := gs 0 hs' sl0; replace sl3 := gs 3 hs' sl3; replace sl4 := gu 4 hs'; clear hs'
     refine listF_nil ?_
     repeat ((fail_if_success refine stp ?_); with_reducible go_step)
     refine ⟨_, _, rfl, ?_, i + 1, a4, c4, (ls.take k ++ [l[i]] ++ ls.drop k), rfl, (by first | (with_reducible exact sl3) | (rw [sl3]; (with_reducible go_num); done) | (rw [sl3, IntWalk.i64_in] <;> first | ((with_reducible go_num); done) | omega) | (rw [sl3]; go_num; done) | (rw [sl3]; simp; done) | (rw [sl3]; simp; omega)), (by first | (with_reducible exact sl4) | (rw [sl4]; (with_reducible go_num); done) | (rw [sl4, IntWalk.i64_in] <;> first | ((with_reducible go_num); done) | omega) | (rw [sl4]; go_num; done) | (rw [sl4]; simp; done) | (rw [sl4]; simp; omega)), (sl0.trans hc0_0.out.symm), HL7.out, by omega, Hnx, hO3⟩
     omega
  ·skip
   have hk' : ¬ (k : Int) < ls.length := by omega
   have Hgt := hid (show ∀ (h : k < ls.length), ¬ ls[k].hour ≤ l[i].hour from fun h => by omega)
   refine regionQ_F (Below w11.heap.size w11) (by kernel_rfl) (by kernel_rfl) (Below.refl _ _).drew ?_
   refine lq ?_
   refine lq ?_
   refine lq ?_
   refine lq ?_
   refine lq ?_
   refine lqn false ?_
   refine lqn false ?_
   refine lqn false ?_
   refine lqn false ?_
   refine lqn false ?_
   refine lqn false ?_
   refine lqn false ?_
   refine lqn false ?_
   refine lqn false ?_
   refine lqn false ?_
   refine lqn false ?_
   refine lq ?_
   refine listQ_nil ?_
   intro w21 hb22
   replace HL7 := hid (HL7.out.below hb22)
   replace HL13 := hid (HL13.out.below hb22)
   replace hO3 := Own.at hO3 hb22
   replace HB := hid (HB.out.below hb22)
   clear hb22
   repeat ((fail_if_success refine stp ?_); with_reducible go_step)
   refine wp_abs (fun s23 hs' => ?_)
   replace sl0 := gs 0 hs' sl0; replace sl3 := gs 3 hs' sl3; replace sl4 := gs 4 hs' sl4; replace sl5 := gs 5 hs' sl5; have sl28 := gu 28 hs'; clear hs'
   refine cond_f ?_
   repeat ((fail_if_success refine stp ?_); with_reducible go_step)
   clear HL13
   clear hc1_0 hc1_3 hc1_4
   have Hnx := hid (show (ls.take k ++ [l[i]] ++ ls.drop k) = sortC (l.take (i + 1)) by rw [sortC_step hlt, ← hls.out]; exact (insC_at hkl hks.out Hgt.out).symm)
   obtain ⟨ad, cd, hsr, hsd⟩ := slice_from a3 ls.length c3 k hkl hcap
   have htk : (ls.take k).length = k := by rw [List.length_take]; omega
   have hdk : (ls.drop k).length = ls.length - k := by rw [List.length_drop]
   have hki : (k : Int) ≤ (c3 : Int) := by omega
   (try clear hk); (try clear hk'); (try clear ha3)
   ·skip
    have hszb := HB.out.size
    have hbl := HB.out.toBelow
    have Hbl := hid hbl
    clear hbl
    refine cut_any (fun sJ wJ => ∃ v3', sJ 0 = .slice (some ⟨b, off, none⟩) l.length c ∧ sJ 3 = v3' ∧ sJ 4 = .int .i64 (i : Int) ∧ Own MCk.cs 3 74 w.heap.size wJ v3' (ls.take k ++ [l[i]] ++ ls.drop k) ∧ Below w.heap.size w wJ) ?_ ?_
    · refine regionI_F (fun (LJ : Nat → Bool) (sJ : Nat → Value) (wJ : World) => (LJ 4 = true → LJ 0 = true) ∧ (LJ 10 = true → LJ 4 = true) ∧ (LJ 14 = true → LJ 10 = true) ∧ Below w.heap.size w wJ ∧ w.heap.size ≤ wJ.heap.size ∧ (LJ 15 = true → LJ 1 = true) ∧ (LJ 15 = true → LJ 11 = true) ∧ (LJ 15 = true → LJ 14 = true) ∧ sJ 0 = .slice (some ⟨b, off, none⟩) l.length c ∧ sJ 4 = .int .i64 (i : Int) ∧ sJ 5 = .int .i64 (k : Int) ∧ (LJ 15 = false → sJ 3 = .slice a3 ls.length c3) ∧ (LJ 15 = true → sJ 3 = sJ 45) ∧ (LJ 1 = true → sJ 32 = .slice a3 ls.length c3) ∧ (LJ 2 = true → sJ 33 = .int .i64 (k : Int)) ∧ (LJ 3 = true → sJ 34 = .slice a3 k c3) ∧ (LJ 5 = true → sJ 36 = .slice (some ⟨b, off, none⟩) l.length c) ∧ (LJ 6 = true → sJ 37 = .int .i64 (i : Int)) ∧ (LJ 7 = true → sJ 38 = .pointer (some ⟨b, off + i * 3, none⟩)) ∧ (LJ 8 = true → sJ 39 = .agg #[.int .i64 l[i].hour, .int .i64 l[i].volt, .bool l[i].passed]) ∧ (LJ 11 = true → sJ 42 = .slice a3 ls.length c3) ∧ (LJ 12 = true → sJ 43 = .int .i64 (k : Int)) ∧ (LJ 13 = true → sJ 44 = .slice ad (ls.length - k) cd) ∧ (Own MCk.cs 3 74 w.heap.size wJ (.slice a3 ls.length c3) ls) ∧ (LJ 0 = true → LJ 4 = false → Own MCk.cs 3 74 w.heap.size wJ (sJ 31) ([] : List MCk)) ∧ (LJ 4 = true → LJ 10 = false → Own MCk.cs 3 74 w.heap.size wJ (sJ 35) (ls.take k)) ∧ (LJ 9 = true → Own MCk.cs 3 74 w.heap.size wJ (sJ 40) [l[i]]) ∧ (LJ 10 = true → LJ 14 = false → Own MCk.cs 3 74 w.heap.size wJ (sJ 41) (ls.take k ++ [l[i]])) ∧ (LJ 14 = true → Own MCk.cs 3 74 w.heap.size wJ (sJ 45) (ls.take k ++ [l[i]] ++ ls.drop k)) ∧ (LJ 0 = true → LJ 4 = false → Apart (.slice a3 ls.length c3) (sJ 31)) ∧ (LJ 4 = true → LJ 10 = false → Apart (.slice a3 ls.length c3) (sJ 35)) ∧ (LJ 9 = true → Apart (.slice a3 ls.length c3) (sJ 40)) ∧ (LJ 10 = true → LJ 14 = false → Apart (.slice a3 ls.length c3) (sJ 41)) ∧ (LJ 14 = true → Apart (.slice a3 ls.length c3) (sJ 45)) ∧ (LJ 0 = true → LJ 4 = false → LJ 9 = true → Apart (sJ 31) (sJ 40)) ∧ (LJ 4 = true → LJ 10 = false → LJ 9 = true → Apart (sJ 35) (sJ 40)) ∧ (LJ 9 = true → LJ 10 = true → LJ 14 = false → Apart (sJ 40) (sJ 41)) ∧ (LJ 9 = true → LJ 14 = true → Apart (sJ 40) (sJ 45))) (by kernel_rfl) (by kernel_rfl) (by kernel_rfl) ?_ ?_ ⟨?_, ?_, ?_, ?_, ?_, ?_, ?_, ?_, ?_, ?_, ?_, ?_, ?_, ?_, ?_, ?_, trivial⟩
      · refine ⟨(by simp), (by simp), (by simp), (by repeat (first | (with_reducible exact Hbl.out) | (with_reducible refine bdrewN ?_ _) | (with_reducible refine Below.drew ?_) | (with_reducible refine Below.setCell ?_ (by first | omega | (simp; done) | (simp; omega)) _) | (with_reducible refine Below.alloc ?_ (by first | omega | (simp; done) | (simp; omega)) _))), (by first | omega | (simp; done) | (simp; omega)), (by simp), (by simp), (by simp), ?_, ?_, ?_, fun _ => ?_, (by simp), (by simp), (by simp), (by simp), (by simp), (by simp), (by simp), (by simp), (by simp), (by simp), (by simp), (hO3), (by simp), (by simp), (by simp), (by simp), (by simp), (by simp), (by simp), (by simp), (by simp), (by simp), (by simp), (by simp), (by simp), (by simp)⟩
        · go_simp
        · go_simp
        · go_simp
        · go_simp
      · rintro sJ wJ ⟨kQ4, kQ10, kQ14, kLow, kSz, kZ15_1, kZ15_11, kZ15_14, hs0, hs4, hs5, ht3, hu3, hv1, hv2, hv3, hv5, hv6, hv7, hv8, hv11, hv12, hv13, kP0, kW0, kW4, kW9, kW10, kW14, kEP0_W0, kEP0_W4, kEP0_W9, kEP0_W10, kEP0_W14, kEW0_W9, kEW4_W9, kEW9_W10, kEW9_W14⟩
        clear kQ4
        clear kQ10
        clear kQ14
        clear kZ15_1
        clear kZ15_11
        clear kZ15_14
        replace ht3 := hu3 (by simp)
        clear hu3
        replace hv1 := hv1 (by simp)
        replace hv2 := hv2 (by simp)
        replace hv3 := hv3 (by simp)
        replace hv5 := hv5 (by simp)
        replace hv6 := hv6 (by simp)
        replace hv7 := hv7 (by simp)
        replace hv8 := hv8 (by simp)
        replace hv11 := hv11 (by simp)
        replace hv12 := hv12 (by simp)
        replace hv13 := hv13 (by simp)
        skip
        clear kW0
        clear kW4
        replace kW9 := kW9 (by simp)
        clear kW10
        replace kW14 := kW14 (by simp)
        clear kEP0_W0
        clear kEP0_W4
        replace kEP0_W9 := kEP0_W9 (by simp)
        clear kEP0_W10
        replace kEP0_W14 := kEP0_W14 (by simp)
        clear kEW0_W9
        clear kEW4_W9
        clear kEW9_W10
        replace kEW9_W14 := kEW9_W14 (by simp) (by simp)
        exact ⟨rfl, _, rfl, sJ 45, by go_simp, by go_simp, by go_simp, kW14, kLow⟩
      · rintro LJ sJ wJ hL hd ⟨kQ4, kQ10, kQ14, kLow, kSz, kZ15_1, kZ15_11, kZ15_14, hs0, hs4, hs5, ht3, hu3, hv1, hv2, hv3, hv5, hv6, hv7, hv8, hv11, hv12, hv13, kP0, kW0, kW4, kW9, kW10, kW14, kEP0_W0, kEP0_W4, kEP0_W9, kEP0_W10, kEP0_W14, kEW0_W9, kEW4_W9, kEW9_W10, kEW9_W14⟩ K hK
        clear hd
        rw [if_pos (by rfl)]
        unfold opF
        go_simp
        exact hK _ _ ⟨(by simp [upd]), (by simpa [upd] using kQ10), (by simpa [upd] using kQ14), (kLow.alloc (by omega) _), (by first | omega | (simp; done) | (simp; omega) | (have := hG.size; omega)), (by simpa [upd] using kZ15_1), (by simpa [upd] using kZ15_11), (by simpa [upd] using kZ15_14), (by simpa [upd, updS] using hs0), (by simpa [upd, updS] using hs4), (by simpa [upd, updS] using hs5), (by simpa [upd, updS] using ht3), (by simpa [upd, updS] using hu3), (by simpa [upd, updS] using hv1), (by simpa [upd, updS] using hv2), (by simpa [upd, updS] using hv3), (by simpa [upd, updS] using hv5), (by simpa [upd, updS] using hv6), (by simpa [upd, updS] using hv7), (by simpa [upd, updS] using hv8), (by simpa [upd, updS] using hv11), (by simpa [upd, updS] using hv12), (by simpa [upd, updS] using hv13), (by simpa [updS] using Own.alloc kP0 _), (fun _ _ => by first | exact Own.lit (by omega) (by unfold maxLen; simp) (by rfl) (fun _ => rfl) | (simp only [updS_some, ↓reduceIte]; exact Own.lit (by omega) (by unfold maxLen; simp) (by rfl) (fun _ => rfl)) | (simpa [updS] using Own.lit (by omega) (by unfold maxLen; simp) (by rfl) (fun _ => rfl))), (fun h1 h2 => by have h1 := (by simpa [upd] using h1 : LJ 4 = true); have h2 := (by simpa [upd] using h2 : LJ 10 = false); simpa [updS] using Own.alloc (kW4 h1 h2) _), (fun h1 => by have h1 := (by simpa [upd] using h1 : LJ 9 = true); simpa [updS] using Own.alloc (kW9 h1) _), (fun h1 h2 => by have h1 := (by simpa [upd] using h1 : LJ 10 = true); have h2 := (by simpa [upd] using h2 : LJ 14 = false); simpa [updS] using Own.alloc (kW10 h1 h2) _), (fun h1 => by have h1 := (by simpa [upd] using h1 : LJ 14 = true); simpa [updS] using Own.alloc (kW14 h1) _), (fun h1 h2 => by have h2 := (by simpa [upd] using h2 : LJ 4 = false); simpa [updS] using Apart.new kP0 _ _), (fun h1 h2 => by have h1 := (by simpa [upd] using h1 : LJ 4 = true); have h2 := (by simpa [upd] using h2 : LJ 10 = false); simpa [updS] using kEP0_W4 h1 h2), (fun h1 => by have h1 := (by simpa [upd] using h1 : LJ 9 = true); simpa [updS] using kEP0_W9 h1), (fun h1 h2 => by have h1 := (by simpa [upd] using h1 : LJ 10 = true); have h2 := (by simpa [upd] using h2 : LJ 14 = false); simpa [updS] using kEP0_W10 h1 h2), (fun h1 => by have h1 := (by simpa [upd] using h1 : LJ 14 = true); simpa [updS] using kEP0_W14 h1), (fun h1 h2 h3 => by have h2 := (by simpa [upd] using h2 : LJ 4 = false); have h3 := (by simpa [upd] using h3 : LJ 9 = true); simpa [updS] using (Apart.new (kW9 h3) _ _).symm), (fun h1 h2 h3 => by have h1 := (by simpa [upd] using h1 : LJ 4 = true); have h2 := (by simpa [upd] using h2 : LJ 10 = false); have h3 := (by simpa [upd] using h3 : LJ 9 = true); simpa [updS] using kEW4_W9 h1 h2 h3), (fun h1 h2 h3 => by have h1 := (by simpa [upd] using h1 : LJ 9 = true); have h2 := (by simpa [upd] using h2 : LJ 10 = true); have h3 := (by simpa [upd] using h3 : LJ 14 = false); simpa [updS] using kEW9_W10 h1 h2 h3), (fun h1 h2 => by have h1 := (by simpa [upd] using h1 : LJ 9 = true); have h2 := (by simpa [upd] using h2 : LJ 14 = true); simpa [updS] using kEW9_W14 h1 h2)⟩
      · rintro LJ sJ wJ hL hd ⟨kQ4, kQ10, kQ14, kLow, kSz, kZ15_1, kZ15_11, kZ15_14, hs0, hs4, hs5, ht3, hu3, hv1, hv2, hv3, hv5, hv6, hv7, hv8, hv11, hv12, hv13, kP0, kW0, kW4, kW9, kW10, kW14, kEP0_W0, kEP0_W4, kEP0_W9, kEP0_W10, kEP0_W14, kEW0_W9, kEW4_W9, kEW9_W10, kEW9_W14⟩ K hK
        clear hd
        rw [if_pos (by rfl)]
        unfold opF
        have gt3 := ht3 (by cases hh : LJ 15 with | false => rfl | true => exact absurd (kZ15_1 hh) (by rw [hL]; decide))
        go_simp
        refine hK _ _ ⟨?_, ?_, ?_, ?_, ?_, ?_, ?_, ?_, ?_, ?_, ?_, ?_, ?_, ?_, ?_, ?_, ?_, ?_, ?_, ?_, ?_, ?_, ?_, ?_, ?_, ?_, ?_, ?_, ?_, ?_, ?_, ?_, ?_, ?_, ?_, ?_, ?_, ?_⟩ <;> first | assumption | (simp [upd, updS]; done) | (simp [upd, updS]; assumption)
      · rintro LJ sJ wJ hL hd ⟨kQ4, kQ10, kQ14, kLow, kSz, kZ15_1, kZ15_11, kZ15_14, hs0, hs4, hs5, ht3, hu3, hv1, hv2, hv3, hv5, hv6, hv7, hv8, hv11, hv12, hv13, kP0, kW0, kW4, kW9, kW10, kW14, kEP0_W0, kEP0_W4, kEP0_W9, kEP0_W10, kEP0_W14, kEW0_W9, kEW4_W9, kEW9_W10, kEW9_W14⟩ K hK
        clear hd
        rw [if_pos (by rfl)]
        unfold opF
        go_simp
        refine hK _ _ ⟨?_, ?_, ?_, ?_, ?_, ?_, ?_, ?_, ?_, ?_, ?_, ?_, ?_, ?_, ?_, ?_, ?_, ?_, ?_, ?_, ?_, ?_, ?_, ?_, ?_, ?_, ?_, ?_, ?_, ?_, ?_, ?_, ?_, ?_, ?_, ?_, ?_, ?_⟩ <;> first | assumption | (simp [upd, updS]; done) | (simp [upd, updS]; assumption)
      · rintro LJ sJ wJ hL hd ⟨kQ4, kQ10, kQ14, kLow, kSz, kZ15_1, kZ15_11, kZ15_14, hs0, hs4, hs5, ht3, hu3, hv1, hv2, hv3, hv5, hv6, hv7, hv8, hv11, hv12, hv13, kP0, kW0, kW4, kW9, kW10, kW14, kEP0_W0, kEP0_W4, kEP0_W9, kEP0_W10, kEP0_W14, kEW0_W9, kEW4_W9, kEW9_W10, kEW9_W14⟩ K hK
        have ga1 := hd ⟨1, .data⟩ (by simp) rfl
        have gv1 := hv1 ga1
        have ga2 := hd ⟨2, .data⟩ (by simp) rfl
        have gv2 := hv2 ga2
        clear hd
        rw [if_pos (by rfl)]
        unfold opF
        go_simp
        refine hK _ _ ⟨?_, ?_, ?_, ?_, ?_, ?_, ?_, ?_, ?_, ?_, ?_, ?_, ?_, ?_, ?_, ?_, ?_, ?_, ?_, ?_, ?_, ?_, ?_, ?_, ?_, ?_, ?_, ?_, ?_, ?_, ?_, ?_, ?_, ?_, ?_, ?_, ?_, ?_⟩ <;> first | assumption | (simp [upd, updS]; done) | (simp [upd, updS]; assumption)
      · rintro LJ sJ wJ hL hd ⟨kQ4, kQ10, kQ14, kLow, kSz, kZ15_1, kZ15_11, kZ15_14, hs0, hs4, hs5, ht3, hu3, hv1, hv2, hv3, hv5, hv6, hv7, hv8, hv11, hv12, hv13, kP0, kW0, kW4, kW9, kW10, kW14, kEP0_W0, kEP0_W4, kEP0_W9, kEP0_W10, kEP0_W14, kEW0_W9, kEW4_W9, kEW9_W10, kEW9_W14⟩ K hK
        have ga0 := hd ⟨0, .data⟩ (by simp) rfl
        have ga3 := hd ⟨3, .data⟩ (by simp) rfl
        have gv3 := hv3 ga3
        clear hd
        rw [if_pos (by rfl)]
        have hcj : LJ 4 = false := hL
        have kWx := kW0 ga0 hcj
        refine opF_app (d := 35) rfl (by decide) (.tmp 31) (.tmp 34) _ rfl 74 i0 _ 24 Try.underlying33 hi0 hz0 hz1 hz2 rfl (by decide) (fun _ => rfl) ck_one w.heap.size (sJ 31) ([] : List MCk) (ls.take k) a3 c3 (by go_simp) (by go_simp) kWx (Rd.takeK (Own.rd' (f := MCk.cs) (m := 3) (fun _ => rfl) kP0 rfl) k) (by simp; unfold maxLen; omega) (by simp; omega) (by omega) (fun v' w' hO hG hV => ?_)
        exact hK _ _ ⟨(by simp [upd]; exact ga0), (by simp [upd]), (by simpa [upd] using kQ14), (low_grown kLow hG (by omega) (fun k hk => by have := (World.ownsRow.lt kWx k hk).1; omega)), (by first | omega | (simp; done) | (simp; omega) | (have := hG.size; omega)), (by simpa [upd] using kZ15_1), (by simpa [upd] using kZ15_11), (by simpa [upd] using kZ15_14), (by simpa [upd, updS] using hs0), (by simpa [upd, updS] using hs4), (by simpa [upd, updS] using hs5), (by simpa [upd, updS] using ht3), (by simpa [upd, updS] using hu3), (by simpa [upd, updS] using hv1), (by simpa [upd, updS] using hv2), (by simpa [upd, updS] using hv3), (by simpa [upd, updS] using hv5), (by simpa [upd, updS] using hv6), (by simpa [upd, updS] using hv7), (by simpa [upd, updS] using hv8), (by simpa [upd, updS] using hv11), (by simpa [upd, updS] using hv12), (by simpa [upd, updS] using hv13), (by simpa [updS] using Own.grown kP0 hG (kEP0_W0 ga0 hcj)), (fun h1 h2 => by simp [upd] at h2), (fun _ _ => by first | exact hO | (simp only [updS_some, ↓reduceIte]; exact hO) | (simpa [updS] using hO)), (fun h1 => by have h1 := (by simpa [upd] using h1 : LJ 9 = true); simpa [updS] using Own.grown (kW9 h1) hG (kEW0_W9 ga0 hcj h1).symm), (fun h1 h2 => by have h1 := (by simpa [upd] using h1 : LJ 10 = true); have h2 := (by simpa [upd] using h2 : LJ 14 = false); exact absurd (kQ10 h1) (by rw [hL]; decide)), (fun h1 => by have h1 := (by simpa [upd] using h1 : LJ 14 = true); exact absurd (kQ10 (kQ14 h1)) (by rw [hL]; decide)), (fun h1 h2 => by simp [upd] at h2), (fun h1 h2 => by have h2 := (by simpa [upd] using h2 : LJ 10 = false); simpa [updS] using Apart.app kP0 (kEP0_W0 ga0 hcj) hV), (fun h1 => by have h1 := (by simpa [upd] using h1 : LJ 9 = true); simpa [updS] using kEP0_W9 h1), (fun h1 h2 => by have h1 := (by simpa [upd] using h1 : LJ 10 = true); have h2 := (by simpa [upd] using h2 : LJ 14 = false); simpa [updS] using kEP0_W10 h1 h2), (fun h1 => by have h1 := (by simpa [upd] using h1 : LJ 14 = true); simpa [updS] using kEP0_W14 h1), (fun h1 h2 h3 => by simp [upd] at h2), (fun h1 h2 h3 => by have h2 := (by simpa [upd] using h2 : LJ 10 = false); have h3 := (by simpa [upd] using h3 : LJ 9 = true); simpa [updS] using (Apart.app (kW9 h3) (kEW0_W9 ga0 hcj h3).symm hV).symm), (fun h1 h2 h3 => by have h1 := (by simpa [upd] using h1 : LJ 9 = true); have h2 := (by simpa [upd] using h2 : LJ 10 = true); have h3 := (by simpa [upd] using h3 : LJ 14 = false); simpa [updS] using kEW9_W10 h1 h2 h3), (fun h1 h2 => by have h1 := (by simpa [upd] using h1 : LJ 9 = true); have h2 := (by simpa [upd] using h2 : LJ 14 = true); simpa [updS] using kEW9_W14 h1 h2)⟩
      · rintro LJ sJ wJ hL hd ⟨kQ4, kQ10, kQ14, kLow, kSz, kZ15_1, kZ15_11, kZ15_14, hs0, hs4, hs5, ht3, hu3, hv1, hv2, hv3, hv5, hv6, hv7, hv8, hv11, hv12, hv13, kP0, kW0, kW4, kW9, kW10, kW14, kEP0_W0, kEP0_W4, kEP0_W9, kEP0_W10, kEP0_W14, kEW0_W9, kEW4_W9, kEW9_W10, kEW9_W14⟩ K hK
        clear hd
        rw [if_pos (by rfl)]
        unfold opF
        go_simp
        refine hK _ _ ⟨?_, ?_, ?_, ?_, ?_, ?_, ?_, ?_, ?_, ?_, ?_, ?_, ?_, ?_, ?_, ?_, ?_, ?_, ?_, ?_, ?_, ?_, ?_, ?_, ?_, ?_, ?_, ?_, ?_, ?_, ?_, ?_, ?_, ?_, ?_, ?_, ?_, ?_⟩ <;> first | assumption | (simp [upd, updS]; done) | (simp [upd, updS]; assumption)
      · rintro LJ sJ wJ hL hd ⟨kQ4, kQ10, kQ14, kLow, kSz, kZ15_1, kZ15_11, kZ15_14, hs0, hs4, hs5, ht3, hu3, hv1, hv2, hv3, hv5, hv6, hv7, hv8, hv11, hv12, hv13, kP0, kW0, kW4, kW9, kW10, kW14, kEP0_W0, kEP0_W4, kEP0_W9, kEP0_W10, kEP0_W14, kEW0_W9, kEW4_W9, kEW9_W10, kEW9_W14⟩ K hK
        clear hd
        rw [if_pos (by rfl)]
        unfold opF
        go_simp
        refine hK _ _ ⟨?_, ?_, ?_, ?_, ?_, ?_, ?_, ?_, ?_, ?_, ?_, ?_, ?_, ?_, ?_, ?_, ?_, ?_, ?_, ?_, ?_, ?_, ?_, ?_, ?_, ?_, ?_, ?_, ?_, ?_, ?_, ?_, ?_, ?_, ?_, ?_, ?_, ?_⟩ <;> first | assumption | (simp [upd, updS]; done) | (simp [upd, updS]; assumption)
      · rintro LJ sJ wJ hL hd ⟨kQ4, kQ10, kQ14, kLow, kSz, kZ15_1, kZ15_11, kZ15_14, hs0, hs4, hs5, ht3, hu3, hv1, hv2, hv3, hv5, hv6, hv7, hv8, hv11, hv12, hv13, kP0, kW0, kW4, kW9, kW10, kW14, kEP0_W0, kEP0_W4, kEP0_W9, kEP0_W10, kEP0_W14, kEW0_W9, kEW4_W9, kEW9_W10, kEW9_W14⟩ K hK
        have ga5 := hd ⟨5, .data⟩ (by simp) rfl
        have gv5 := hv5 ga5
        have ga6 := hd ⟨6, .data⟩ (by simp) rfl
        have gv6 := hv6 ga6
        clear hd
        rw [if_pos (by rfl)]
        unfold opF
        go_simp
        refine hK _ _ ⟨?_, ?_, ?_, ?_, ?_, ?_, ?_, ?_, ?_, ?_, ?_, ?_, ?_, ?_, ?_, ?_, ?_, ?_, ?_, ?_, ?_, ?_, ?_, ?_, ?_, ?_, ?_, ?_, ?_, ?_, ?_, ?_, ?_, ?_, ?_, ?_, ?_, ?_⟩ <;> first | assumption | (simp [upd, updS]; done) | (simp [upd, updS]; assumption)
      · rintro LJ sJ wJ hL hd ⟨kQ4, kQ10, kQ14, kLow, kSz, kZ15_1, kZ15_11, kZ15_14, hs0, hs4, hs5, ht3, hu3, hv1, hv2, hv3, hv5, hv6, hv7, hv8, hv11, hv12, hv13, kP0, kW0, kW4, kW9, kW10, kW14, kEP0_W0, kEP0_W4, kEP0_W9, kEP0_W10, kEP0_W14, kEW0_W9, kEW4_W9, kEW9_W10, kEW9_W14⟩ K hK
        have ga7 := hd ⟨7, .data⟩ (by simp) rfl
        have gv7 := hv7 ga7
        clear hd
        rw [if_pos (by rfl)]
        unfold opF
        obtain ⟨hcq, hfq⟩ := bcell kLow
        go_simp
        refine hK _ _ ⟨?_, ?_, ?_, ?_, ?_, ?_, ?_, ?_, ?_, ?_, ?_, ?_, ?_, ?_, ?_, ?_, ?_, ?_, ?_, ?_, ?_, ?_, ?_, ?_, ?_, ?_, ?_, ?_, ?_, ?_, ?_, ?_, ?_, ?_, ?_, ?_, ?_, ?_⟩ <;> first | assumption | (simp [upd, updS]; done) | (simp [upd, updS]; assumption)
      · rintro LJ sJ wJ hL hd ⟨kQ4, kQ10, kQ14, kLow, kSz, kZ15_1, kZ15_11, kZ15_14, hs0, hs4, hs5, ht3, hu3, hv1, hv2, hv3, hv5, hv6, hv7, hv8, hv11, hv12, hv13, kP0, kW0, kW4, kW9, kW10, kW14, kEP0_W0, kEP0_W4, kEP0_W9, kEP0_W10, kEP0_W14, kEW0_W9, kEW4_W9, kEW9_W10, kEW9_W14⟩ K hK
        have ga8 := hd ⟨8, .data⟩ (by simp) rfl
        have gv8 := hv8 ga8
        clear hd
        rw [if_pos (by rfl)]
        unfold opF
        go_simp
        exact hK _ _ ⟨(by simpa [upd] using kQ4), (by simpa [upd] using kQ10), (by simpa [upd] using kQ14), (kLow.alloc (by omega) _), (by first | omega | (simp; done) | (simp; omega) | (have := hG.size; omega)), (by simpa [upd] using kZ15_1), (by simpa [upd] using kZ15_11), (by simpa [upd] using kZ15_14), (by simpa [upd, updS] using hs0), (by simpa [upd, updS] using hs4), (by simpa [upd, updS] using hs5), (by simpa [upd, updS] using ht3), (by simpa [upd, updS] using hu3), (by simpa [upd, updS] using hv1), (by simpa [upd, updS] using hv2), (by simpa [upd, updS] using hv3), (by simpa [upd, updS] using hv5), (by simpa [upd, updS] using hv6), (by simpa [upd, updS] using hv7), (by simpa [upd, updS] using hv8), (by simpa [upd, updS] using hv11), (by simpa [upd, updS] using hv12), (by simpa [upd, updS] using hv13), (by simpa [updS] using Own.alloc kP0 _), (fun h1 h2 => by have h1 := (by simpa [upd] using h1 : LJ 0 = true); have h2 := (by simpa [upd] using h2 : LJ 4 = false); simpa [updS] using Own.alloc (kW0 h1 h2) _), (fun h1 h2 => by have h1 := (by simpa [upd] using h1 : LJ 4 = true); have h2 := (by simpa [upd] using h2 : LJ 10 = false); simpa [updS] using Own.alloc (kW4 h1 h2) _), (fun _ => by first | exact Own.lit (by omega) (by unfold maxLen; simp) (by rfl) (fun _ => rfl) | (simp only [updS_some, ↓reduceIte]; exact Own.lit (by omega) (by unfold maxLen; simp) (by rfl) (fun _ => rfl)) | (simpa [updS] using Own.lit (by omega) (by unfold maxLen; simp) (by rfl) (fun _ => rfl))), (fun h1 h2 => by have h1 := (by simpa [upd] using h1 : LJ 10 = true); have h2 := (by simpa [upd] using h2 : LJ 14 = false); simpa [updS] using Own.alloc (kW10 h1 h2) _), (fun h1 => by have h1 := (by simpa [upd] using h1 : LJ 14 = true); simpa [updS] using Own.alloc (kW14 h1) _), (fun h1 h2 => by have h1 := (by simpa [upd] using h1 : LJ 0 = true); have h2 := (by simpa [upd] using h2 : LJ 4 = false); simpa [updS] using kEP0_W0 h1 h2), (fun h1 h2 => by have h1 := (by simpa [upd] using h1 : LJ 4 = true); have h2 := (by simpa [upd] using h2 : LJ 10 = false); simpa [updS] using kEP0_W4 h1 h2), (fun h1 => by simpa [updS] using Apart.new kP0 _ _), (fun h1 h2 => by have h1 := (by simpa [upd] using h1 : LJ 10 = true); have h2 := (by simpa [upd] using h2 : LJ 14 = false); simpa [updS] using kEP0_W10 h1 h2), (fun h1 => by have h1 := (by simpa [upd] using h1 : LJ 14 = true); simpa [updS] using kEP0_W14 h1), (fun h1 h2 h3 => by have h1 := (by simpa [upd] using h1 : LJ 0 = true); have h2 := (by simpa [upd] using h2 : LJ 4 = false); simpa [updS] using Apart.new (kW0 h1 h2) _ _), (fun h1 h2 h3 => by have h1 := (by simpa [upd] using h1 : LJ 4 = true); have h2 := (by simpa [upd] using h2 : LJ 10 = false); simpa [updS] using Apart.new (kW4 h1 h2) _ _), (fun h1 h2 h3 => by have h2 := (by simpa [upd] using h2 : LJ 10 = true); have h3 := (by simpa [upd] using h3 : LJ 14 = false); simpa [updS] using (Apart.new (kW10 h2 h3) _ _).symm), (fun h1 h2 => by have h2 := (by simpa [upd] using h2 : LJ 14 = true); simpa [updS] using (Apart.new (kW14 h2) _ _).symm)⟩
      · rintro LJ sJ wJ hL hd ⟨kQ4, kQ10, kQ14, kLow, kSz, kZ15_1, kZ15_11, kZ15_14, hs0, hs4, hs5, ht3, hu3, hv1, hv2, hv3, hv5, hv6, hv7, hv8, hv11, hv12, hv13, kP0, kW0, kW4, kW9, kW10, kW14, kEP0_W0, kEP0_W4, kEP0_W9, kEP0_W10, kEP0_W14, kEW0_W9, kEW4_W9, kEW9_W10, kEW9_W14⟩ K hK
        have ga4 := hd ⟨4, .data⟩ (by simp) rfl
        have ga9 := hd ⟨9, .data⟩ (by simp) rfl
        have ga4 := hd ⟨4, .chain⟩ (by simp) rfl
        clear hd
        rw [if_pos (by rfl)]
        have hcj : LJ 10 = false := hL
        have kWx := kW4 ga4 hcj
        have kWy := kW9 ga9
        obtain ⟨ay, cy, hvy, hry, hny⟩ := Own.slice (f := MCk.cs) (m := 3) (fun _ => rfl) kWy
        refine opF_app (d := 41) rfl (by decide) (.tmp 35) (.tmp 40) _ rfl 74 i0 _ 24 Try.underlying33 hi0 hz0 hz1 hz2 rfl (by decide) (fun _ => rfl) ck_one w.heap.size (sJ 35) (ls.take k) [l[i]] ay cy (by go_simp) (by simpa using hvy) kWx hry (by simp; unfold maxLen; omega) (by simp; omega) (by omega) (fun v' w' hO hG hV => ?_)
        exact hK _ _ ⟨(by simpa [upd] using kQ4), (by simp [upd]; exact ga4), (by simp [upd]), (low_grown kLow hG (by omega) (fun k hk => by have := (World.ownsRow.lt kWx k hk).1; omega)), (by first | omega | (simp; done) | (simp; omega) | (have := hG.size; omega)), (by simpa [upd] using kZ15_1), (by simpa [upd] using kZ15_11), (by simpa [upd] using kZ15_14), (by simpa [upd, updS] using hs0), (by simpa [upd, updS] using hs4), (by simpa [upd, updS] using hs5), (by simpa [upd, updS] using ht3), (by simpa [upd, updS] using hu3), (by simpa [upd, updS] using hv1), (by simpa [upd, updS] using hv2), (by simpa [upd, updS] using hv3), (by simpa [upd, updS] using hv5), (by simpa [upd, updS] using hv6), (by simpa [upd, updS] using hv7), (by simpa [upd, updS] using hv8), (by simpa [upd, updS] using hv11), (by simpa [upd, updS] using hv12), (by simpa [upd, updS] using hv13), (by simpa [updS] using Own.grown kP0 hG (kEP0_W4 ga4 hcj)), (fun h1 h2 => by have h1 := (by simpa [upd] using h1 : LJ 0 = true); have h2 := (by simpa [upd] using h2 : LJ 4 = false); exact absurd ga4 (by rw [h2]; decide)), (fun h1 h2 => by simp [upd] at h2), (fun h1 => by have h1 := (by simpa [upd] using h1 : LJ 9 = true); simpa [updS] using Own.grown (kW9 h1) hG (kEW4_W9 ga4 hcj h1).symm), (fun _ _ => by first | exact hO | (simp only [updS_some, ↓reduceIte]; exact hO) | (simpa [updS] using hO)), (fun h1 => by have h1 := (by simpa [upd] using h1 : LJ 14 = true); exact absurd (kQ14 h1) (by rw [hL]; decide)), (fun h1 h2 => by have h1 := (by simpa [upd] using h1 : LJ 0 = true); have h2 := (by simpa [upd] using h2 : LJ 4 = false); simpa [updS] using kEP0_W0 h1 h2), (fun h1 h2 => by simp [upd] at h2), (fun h1 => by have h1 := (by simpa [upd] using h1 : LJ 9 = true); simpa [updS] using kEP0_W9 h1), (fun h1 h2 => by have h2 := (by simpa [upd] using h2 : LJ 14 = false); simpa [updS] using Apart.app kP0 (kEP0_W4 ga4 hcj) hV), (fun h1 => by have h1 := (by simpa [upd] using h1 : LJ 14 = true); simpa [updS] using kEP0_W14 h1), (fun h1 h2 h3 => by have h1 := (by simpa [upd] using h1 : LJ 0 = true); have h2 := (by simpa [upd] using h2 : LJ 4 = false); have h3 := (by simpa [upd] using h3 : LJ 9 = true); simpa [updS] using kEW0_W9 h1 h2 h3), (fun h1 h2 h3 => by simp [upd] at h2), (fun h1 h2 h3 => by have h1 := (by simpa [upd] using h1 : LJ 9 = true); have h3 := (by simpa [upd] using h3 : LJ 14 = false); simpa [updS] using Apart.app (kW9 h1) (kEW4_W9 ga4 hcj h1).symm hV), (fun h1 h2 => by have h1 := (by simpa [upd] using h1 : LJ 9 = true); have h2 := (by simpa [upd] using h2 : LJ 14 = true); simpa [updS] using kEW9_W14 h1 h2)⟩
      · rintro LJ sJ wJ hL hd ⟨kQ4, kQ10, kQ14, kLow, kSz, kZ15_1, kZ15_11, kZ15_14, hs0, hs4, hs5, ht3, hu3, hv1, hv2, hv3, hv5, hv6, hv7, hv8, hv11, hv12, hv13, kP0, kW0, kW4, kW9, kW10, kW14, kEP0_W0, kEP0_W4, kEP0_W9, kEP0_W10, kEP0_W14, kEW0_W9, kEW4_W9, kEW9_W10, kEW9_W14⟩ K hK
        clear hd
        rw [if_pos (by rfl)]
        unfold opF
        have gt3 := ht3 (by cases hh : LJ 15 with | false => rfl | true => exact absurd (kZ15_11 hh) (by rw [hL]; decide))
        go_simp
        refine hK _ _ ⟨?_, ?_, ?_, ?_, ?_, ?_, ?_, ?_, ?_, ?_, ?_, ?_, ?_, ?_, ?_, ?_, ?_, ?_, ?_, ?_, ?_, ?_, ?_, ?_, ?_, ?_, ?_, ?_, ?_, ?_, ?_, ?_, ?_, ?_, ?_, ?_, ?_, ?_⟩ <;> first | assumption | (simp [upd, updS]; done) | (simp [upd, updS]; assumption)
      · rintro LJ sJ wJ hL hd ⟨kQ4, kQ10, kQ14, kLow, kSz, kZ15_1, kZ15_11, kZ15_14, hs0, hs4, hs5, ht3, hu3, hv1, hv2, hv3, hv5, hv6, hv7, hv8, hv11, hv12, hv13, kP0, kW0, kW4, kW9, kW10, kW14, kEP0_W0, kEP0_W4, kEP0_W9, kEP0_W10, kEP0_W14, kEW0_W9, kEW4_W9, kEW9_W10, kEW9_W14⟩ K hK
        clear hd
        rw [if_pos (by rfl)]
        unfold opF
        go_simp
        refine hK _ _ ⟨?_, ?_, ?_, ?_, ?_, ?_, ?_, ?_, ?_, ?_, ?_, ?_, ?_, ?_, ?_, ?_, ?_, ?_, ?_, ?_, ?_, ?_, ?_, ?_, ?_, ?_, ?_, ?_, ?_, ?_, ?_, ?_, ?_, ?_, ?_, ?_, ?_, ?_⟩ <;> first | assumption | (simp [upd, updS]; done) | (simp [upd, updS]; assumption)
      · rintro LJ sJ wJ hL hd ⟨kQ4, kQ10, kQ14, kLow, kSz, kZ15_1, kZ15_11, kZ15_14, hs0, hs4, hs5, ht3, hu3, hv1, hv2, hv3, hv5, hv6, hv7, hv8, hv11, hv12, hv13, kP0, kW0, kW4, kW9, kW10, kW14, kEP0_W0, kEP0_W4, kEP0_W9, kEP0_W10, kEP0_W14, kEW0_W9, kEW4_W9, kEW9_W10, kEW9_W14⟩ K hK
        have ga11 := hd ⟨11, .data⟩ (by simp) rfl
        have gv11 := hv11 ga11
        have ga12 := hd ⟨12, .data⟩ (by simp) rfl
        have gv12 := hv12 ga12
        clear hd
        rw [if_pos (by rfl)]
        unfold opF
        go_simp
        refine hK _ _ ⟨?_, ?_, ?_, ?_, ?_, ?_, ?_, ?_, ?_, ?_, ?_, ?_, ?_, ?_, ?_, ?_, ?_, ?_, ?_, ?_, ?_, ?_, ?_, ?_, ?_, ?_, ?_, ?_, ?_, ?_, ?_, ?_, ?_, ?_, ?_, ?_, ?_, ?_⟩ <;> first | assumption | (simp [upd, updS]; done) | (simp [upd, updS]; assumption)
      · rintro LJ sJ wJ hL hd ⟨kQ4, kQ10, kQ14, kLow, kSz, kZ15_1, kZ15_11, kZ15_14, hs0, hs4, hs5, ht3, hu3, hv1, hv2, hv3, hv5, hv6, hv7, hv8, hv11, hv12, hv13, kP0, kW0, kW4, kW9, kW10, kW14, kEP0_W0, kEP0_W4, kEP0_W9, kEP0_W10, kEP0_W14, kEW0_W9, kEW4_W9, kEW9_W10, kEW9_W14⟩ K hK
        have ga10 := hd ⟨10, .data⟩ (by simp) rfl
        have ga13 := hd ⟨13, .data⟩ (by simp) rfl
        have gv13 := hv13 ga13
        have ga10 := hd ⟨10, .chain⟩ (by simp) rfl
        clear hd
        rw [if_pos (by rfl)]
        have hcj : LJ 14 = false := hL
        have kWx := kW10 ga10 hcj
        refine opF_app (d := 45) rfl (by decide) (.tmp 41) (.tmp 44) _ rfl 74 i0 _ 24 Try.underlying33 hi0 hz0 hz1 hz2 rfl (by decide) (fun _ => rfl) ck_one w.heap.size (sJ 41) (ls.take k ++ [l[i]]) (ls.drop k) ad cd (by go_simp) (by go_simp) kWx (hsd _ _ rfl (Own.rd' (f := MCk.cs) (m := 3) (fun _ => rfl) kP0 rfl)) (by simp; unfold maxLen; omega) (by simp; omega) (by omega) (fun v' w' hO hG hV => ?_)
        exact hK _ _ ⟨(by simpa [upd] using kQ4), (by simpa [upd] using kQ10), (by simp [upd]; exact ga10), (low_grown kLow hG (by omega) (fun k hk => by have := (World.ownsRow.lt kWx k hk).1; omega)), (by first | omega | (simp; done) | (simp; omega) | (have := hG.size; omega)), (by simpa [upd] using kZ15_1), (by simpa [upd] using kZ15_11), (by simp [upd]), (by simpa [upd, updS] using hs0), (by simpa [upd, updS] using hs4), (by simpa [upd, updS] using hs5), (by simpa [upd, updS] using ht3), (fun h => by have h := (by simpa [upd] using h : LJ 15 = true); exact absurd (kZ15_14 h) (by rw [hL]; decide)), (by simpa [upd, updS] using hv1), (by simpa [upd, updS] using hv2), (by simpa [upd, updS] using hv3), (by simpa [upd, updS] using hv5), (by simpa [upd, updS] using hv6), (by simpa [upd, updS] using hv7), (by simpa [upd, updS] using hv8), (by simpa [upd, updS] using hv11), (by simpa [upd, updS] using hv12), (by simpa [upd, updS] using hv13), (by simpa [updS] using Own.grown kP0 hG (kEP0_W10 ga10 hcj)), (fun h1 h2 => by have h1 := (by simpa [upd] using h1 : LJ 0 = true); have h2 := (by simpa [upd] using h2 : LJ 4 = false); exact absurd (kQ10 ga10) (by rw [h2]; decide)), (fun h1 h2 => by have h1 := (by simpa [upd] using h1 : LJ 4 = true); have h2 := (by simpa [upd] using h2 : LJ 10 = false); exact absurd ga10 (by rw [h2]; decide)), (fun h1 => by have h1 := (by simpa [upd] using h1 : LJ 9 = true); simpa [updS] using Own.grown (kW9 h1) hG (kEW9_W10 h1 ga10 hcj)), (fun h1 h2 => by simp [upd] at h2), (fun _ => by first | exact hO | (simp only [updS_some, ↓reduceIte]; exact hO) | (simpa [updS] using hO)), (fun h1 h2 => by have h1 := (by simpa [upd] using h1 : LJ 0 = true); have h2 := (by simpa [upd] using h2 : LJ 4 = false); simpa [updS] using kEP0_W0 h1 h2), (fun h1 h2 => by have h1 := (by simpa [upd] using h1 : LJ 4 = true); have h2 := (by simpa [upd] using h2 : LJ 10 = false); simpa [updS] using kEP0_W4 h1 h2), (fun h1 => by have h1 := (by simpa [upd] using h1 : LJ 9 = true); simpa [updS] using kEP0_W9 h1), (fun h1 h2 => by simp [upd] at h2), (fun h1 => by simpa [updS] using Apart.app kP0 (kEP0_W10 ga10 hcj) hV), (fun h1 h2 h3 => by have h1 := (by simpa [upd] using h1 : LJ 0 = true); have h2 := (by simpa [upd] using h2 : LJ 4 = false); have h3 := (by simpa [upd] using h3 : LJ 9 = true); simpa [updS] using kEW0_W9 h1 h2 h3), (fun h1 h2 h3 => by have h1 := (by simpa [upd] using h1 : LJ 4 = true); have h2 := (by simpa [upd] using h2 : LJ 10 = false); have h3 := (by simpa [upd] using h3 : LJ 9 = true); simpa [updS] using kEW4_W9 h1 h2 h3), (fun h1 h2 h3 => by simp [upd] at h3), (fun h1 h2 => by have h1 := (by simpa [upd] using h1 : LJ 9 = true); simpa [updS] using Apart.app (kW9 h1) (kEW9_W10 h1 ga10 hcj) hV)⟩
      · rintro LJ sJ wJ hL hd ⟨kQ4, kQ10, kQ14, kLow, kSz, kZ15_1, kZ15_11, kZ15_14, hs0, hs4, hs5, ht3, hu3, hv1, hv2, hv3, hv5, hv6, hv7, hv8, hv11, hv12, hv13, kP0, kW0, kW4, kW9, kW10, kW14, kEP0_W0, kEP0_W4, kEP0_W9, kEP0_W10, kEP0_W14, kEW0_W9, kEW4_W9, kEW9_W10, kEW9_W14⟩ K hK
        have ga14 := hd ⟨14, .data⟩ (by simp) rfl
        have ga14 := hd ⟨14, .chain⟩ (by simp) rfl
        have ga0 := hd ⟨0, .phase⟩ (by simp) rfl
        have ga1 := hd ⟨1, .phase⟩ (by simp) rfl
        have gv1 := hv1 ga1
        have ga2 := hd ⟨2, .phase⟩ (by simp) rfl
        have gv2 := hv2 ga2
        have ga3 := hd ⟨3, .phase⟩ (by simp) rfl
        have gv3 := hv3 ga3
        have ga4 := hd ⟨4, .phase⟩ (by simp) rfl
        have ga5 := hd ⟨5, .phase⟩ (by simp) rfl
        have gv5 := hv5 ga5
        have ga6 := hd ⟨6, .phase⟩ (by simp) rfl
        have gv6 := hv6 ga6
        have ga7 := hd ⟨7, .phase⟩ (by simp) rfl
        have gv7 := hv7 ga7
        have ga8 := hd ⟨8, .phase⟩ (by simp) rfl
        have gv8 := hv8 ga8
        have ga9 := hd ⟨9, .phase⟩ (by simp) rfl
        have ga10 := hd ⟨10, .phase⟩ (by simp) rfl
        have ga11 := hd ⟨11, .phase⟩ (by simp) rfl
        have gv11 := hv11 ga11
        have ga12 := hd ⟨12, .phase⟩ (by simp) rfl
        have gv12 := hv12 ga12
        have ga13 := hd ⟨13, .phase⟩ (by simp) rfl
        have gv13 := hv13 ga13
        have ga14 := hd ⟨14, .phase⟩ (by simp) rfl
        clear hd
        rw [if_pos (by rfl)]
        unfold opF
        go_simp
        exact hK _ _ ⟨(by simpa [upd] using kQ4), (by simpa [upd] using kQ10), (by simpa [upd] using kQ14), kLow, (by first | omega | (simp; done) | (simp; omega) | (have := hG.size; omega)), (by simp [upd]; exact ga1), (by simp [upd]; exact ga11), (by simp [upd]; exact ga14), (by simpa [upd, updS] using hs0), (by simpa [upd, updS] using hs4), (by simpa [upd, updS] using hs5), (by simp [upd]), (by simp [upd, updS]), (by simpa [upd, updS] using hv1), (by simpa [upd, updS] using hv2), (by simpa [upd, updS] using hv3), (by simpa [upd, updS] using hv5), (by simpa [upd, updS] using hv6), (by simpa [upd, updS] using hv7), (by simpa [upd, updS] using hv8), (by simpa [upd, updS] using hv11), (by simpa [upd, updS] using hv12), (by simpa [upd, updS] using hv13), (by simpa [updS] using kP0), (fun h1 h2 => by have h1 := (by simpa [upd] using h1 : LJ 0 = true); have h2 := (by simpa [upd] using h2 : LJ 4 = false); simpa [updS] using (kW0 h1 h2)), (fun h1 h2 => by have h1 := (by simpa [upd] using h1 : LJ 4 = true); have h2 := (by simpa [upd] using h2 : LJ 10 = false); simpa [updS] using (kW4 h1 h2)), (fun h1 => by have h1 := (by simpa [upd] using h1 : LJ 9 = true); simpa [updS] using (kW9 h1)), (fun h1 h2 => by have h1 := (by simpa [upd] using h1 : LJ 10 = true); have h2 := (by simpa [upd] using h2 : LJ 14 = false); simpa [updS] using (kW10 h1 h2)), (fun h1 => by have h1 := (by simpa [upd] using h1 : LJ 14 = true); simpa [updS] using (kW14 h1)), (fun h1 h2 => by have h1 := (by simpa [upd] using h1 : LJ 0 = true); have h2 := (by simpa [upd] using h2 : LJ 4 = false); simpa [updS] using kEP0_W0 h1 h2), (fun h1 h2 => by have h1 := (by simpa [upd] using h1 : LJ 4 = true); have h2 := (by simpa [upd] using h2 : LJ 10 = false); simpa [updS] using kEP0_W4 h1 h2), (fun h1 => by have h1 := (by simpa [upd] using h1 : LJ 9 = true); simpa [updS] using kEP0_W9 h1), (fun h1 h2 => by have h1 := (by simpa [upd] using h1 : LJ 10 = true); have h2 := (by simpa [upd] using h2 : LJ 14 = false); simpa [updS] using kEP0_W10 h1 h2), (fun h1 => by have h1 := (by simpa [upd] using h1 : LJ 14 = true); simpa [updS] using kEP0_W14 h1), (fun h1 h2 h3 => by have h1 := (by simpa [upd] using h1 : LJ 0 = true); have h2 := (by simpa [upd] using h2 : LJ 4 = false); have h3 := (by simpa [upd] using h3 : LJ 9 = true); simpa [updS] using kEW0_W9 h1 h2 h3), (fun h1 h2 h3 => by have h1 := (by simpa [upd] using h1 : LJ 4 = true); have h2 := (by simpa [upd] using h2 : LJ 10 = false); have h3 := (by simpa [upd] using h3 : LJ 9 = true); simpa [updS] using kEW4_W9 h1 h2 h3), (fun h1 h2 h3 => by have h1 := (by simpa [upd] using h1 : LJ 9 = true); have h2 := (by simpa [upd] using h2 : LJ 10 = true); have h3 := (by simpa [upd] using h3 : LJ 14 = false); simpa [updS] using kEW9_W10 h1 h2 h3), (fun h1 h2 => by have h1 := (by simpa [upd] using h1 : LJ 9 = true); have h2 := (by simpa [upd] using h2 : LJ 14 = true); simpa [updS] using kEW9_W14 h1 h2)⟩
    clear hO3 sl0 sl3 sl4 sl5 sl28
    rintro s8 w24 ⟨v3', sl0, sl3, sl4, hO3, hB8⟩
    have HB := hid (OldB.nil (Bs := []) hB8)
    have HL7 := HB
    obtain ⟨a4, c4, rfl, hr4, hn4⟩ := Own.slice (f := MCk.cs) (m := 3) (fun _ => rfl) hO3
    clear hr4 hn4 hB8
    have Hln := hid (show (ls.take k ++ [l[i]] ++ ls.drop k).length = i + 1 by simp; omega)
    replace sl0 := sl0
    repeat ((fail_if_success refine stp ?_); with_reducible go_step)
    refine region_F ?_
    refine pl ?_
    refine pl ?_
    refine pl ?_
    refine listF_abs (fun s26 hs' => ?_)
    replace sl0 := gs 0 hs' sl0; replace sl3 := gs 3 hs' sl3; replace sl4 := gu 4 hs'; clear hs'
    refine listF_nil ?_
    repeat ((fail_if_success refine stp ?_); with_reducible go_step)
    refine ⟨_, _, rfl, ?_, i + 1, a4, c4, (ls.take k ++ [l[i]] ++ ls.drop k), rfl, (by first | (with_reducible exact sl3) | (rw [sl3]; (with_reducible go_num); done) | (rw [sl3, IntWalk.i64_in] <;> first | ((with_reducible go_num); done) | omega) | (rw [sl3]; go_num; done) | (rw [sl3]; simp; done) | (rw [sl3]; simp; omega)), (by first | (with_reducible exact sl4) | (rw [sl4]; (with_reducible go_num); done) | (rw [sl4, IntWalk.i64_in] <;> first | ((with_reducible go_num); done) | omega) | (rw [sl4]; go_num; done) | (rw [sl4]; simp; done) | (rw [sl4]; simp; omega)), (sl0.trans hc0_0.out.symm), HL7.out, by omega, Hnx, hO3⟩
    omega
 ·skip
  have hge : ¬ i < l.length := by simpa using h9
  have Hie := hid (show ls = sortC l by rw [hls.out, List.take_of_length_le (by omega)])
  repeat ((fail_if_success refine stp ?_); with_reducible go_step)
  clear HL7
  clear hc0_0
  refine region_F ?_
  refine pl ?_
  refine pl ?_
  refine listF_abs (fun s27 hs' => ?_)
  have sl2 := gu 2 hs'; clear hs' sl0 sl3 sl4 sl9
  refine listF_nil ?_
  repeat ((fail_if_success refine stp ?_); with_reducible go_step)
  refine ret_F _ (res_t Try.results86 ((getD_F (by decide)).trans sl2)) ?_
  exact ⟨_, _, by rw [← Hie.out], by rw [← Hie.out]; exact Own.rd' (f := MCk.cs) (m := 3) (fun _ => rfl) hO3 rfl, (fun b hb => by have := World.ownsRow.lt hO3 b.block (by rw [hb]; rfl); exact this.1), HB.out.toBelow⟩

end Go.Proofs.Ytndcmmghgljinaa
