/- General lemmas: append with the wide limit. -/
import Derived.Test.YtndcmmghgljinaarcM10
import Derived.Test.YtndcmmghgljinaarcW39
import Derived.Test.YtndcmmghgljinaarcG6
import Derived.Deep.DeepAppendWide
set_option linter.all false
namespace Go.Proofs.Ytndcmmghgljinaa

section
section
open Go.RowKit


def replUp (ns : List Int) (ws : List Bool) (t : Int) : Nat → Bool
  | 0 => false
  | j + 1 => replUp ns ws t j || (decide (ns.getD j 0 = t) && ws.getD j false)
/-- strengths hour by hour from f on, with what is replaced: the strength d hours later -/
def pathS (k : Kd) (lw ns : List Int) (ws : List Bool) (f : Nat) (s0 : Int) : Nat → Int
  | 0 => if replUp ns ws f ns.length then k.new else s0
  | d + 1 => if replUp ns ws ((f + (d + 1) : Nat) : Int) ns.length then k.new else max 0 (pathS k lw ns ws f s0 d - k.wear.lo - wearAt lw (f + (d + 1)) % (k.wear.hi - k.wear.lo + 1))
def preS (k : Kd) (lw ns : List Int) (ws : List Bool) (f : Nat) (s0 : Int) : Nat → Int
  | 0 => s0
  | d + 1 => max 0 (pathS k lw ns ws f s0 d - k.wear.lo - wearAt lw (f + (d + 1)) % (k.wear.hi - k.wear.lo + 1))
theorem path_pre (k : Kd) (lw ns : List Int) (ws : List Bool) (f : Nat) (s0 : Int) (d : Nat) : pathS k lw ns ws f s0 d = if replUp ns ws ((f + d : Nat) : Int) ns.length then k.new else preS k lw ns ws f s0 d := by cases d <;> rfl
def failB (k : Kd) (lw ns : List Int) (ws : List Bool) (f u : Nat) (s0 : Int) : Bool := (List.range (u - f + 1)).any fun e => decide (pathS k lw ns ws f s0 e < needed k 1000)
theorem repl_succ (ns : List Int) (ws : List Bool) (t : Int) (j : Nat) : replUp ns ws t (j + 1) = (replUp ns ws t j || (decide (ns.getD j 0 = t) && ws.getD j false)) := rfl
theorem RdB.ne {w : World} {a : Option Addr} {l : List Bool} (h : RdB w a l) {k : Nat} (hk : k < l.length) :
    ∃ b off, a = some ⟨b, off, none⟩ ∧ b < w.heap.size ∧ w.cell? ⟨b, off + k, none⟩ = some (.bool l[k]) := by
  obtain ⟨b, off, ha, hb, hc⟩ := Rd.ne h hk; exact ⟨b, off, ha, hb, by simpa using hc 0 _ rfl⟩
theorem fail_yes {k : Kd} {lw ns : List Int} {ws : List Bool} {f u : Nat} {s0 : Int} {d : Nat} (hd : d ≤ u - f) (h : pathS k lw ns ws f s0 d < needed k 1000) : failB k lw ns ws f u s0 = true :=
  List.any_eq_true.2 ⟨d, List.mem_range.2 (by omega), by simpa using h⟩
theorem fail_no {k : Kd} {lw ns : List Int} {ws : List Bool} {f u : Nat} {s0 : Int} (h : ∀ e, e < u - f + 1 → needed k 1000 ≤ pathS k lw ns ws f s0 e) : failB k lw ns ws f u s0 = false := by
  rw [failB, List.any_eq_false]; intro e he; have := h e (List.mem_range.1 he)
  simpa using this
theorem wornS_bd1 {k : Kd} (hK : KOk k) {s n : Int} (hs : 0 ≤ s ∧ s ≤ 1000000) (hn : 0 ≤ n ∧ n ≤ 65535) : 0 ≤ max 0 (s - k.wear.lo - n % (k.wear.hi - k.wear.lo + 1)) ∧ max 0 (s - k.wear.lo - n % (k.wear.hi - k.wear.lo + 1)) ≤ 1000000 := by
  have h1 := hK.w1; have h0 := hK.w0; have h2 := Int.emod_nonneg n (b := k.wear.hi - k.wear.lo + 1) (by omega)
  omega

set_option maxRecDepth 100000 in
set_option maxHeartbeats 8000000 in
theorem failed_any (k : Kd) (a : Option Addr) (c : Nat) (as_ : Option Addr) (cs_ : Nat) (ls : List Int) (an : Option Addr) (cn : Nat) (ns : List Int) (ab : Option Addr) (cb : Nat) (ws : List Bool) (f u : Nat) (aw : Option Addr) (cw : Nat) (lw : List Int) (z0 : Int) (w : World) (hK : KOk k) (hR : RdSteps w a k.steps) (hRs : RdInts w as_ ls) (hf : f < ls.length) (hs0 : ls.getD f 0 = z0) (hsb : 0 ≤ z0 ∧ z0 ≤ 1000000) (hRn : RdInts w an ns) (hln : ns.length ≤ 1000) (hRb : RdB w ab ws) (hnw : ws.length = ns.length) (hfu : f ≤ u) (hu : u ≤ 99998) (hRw : RdU w aw lw) (hlw : lw.length ≤ 9223372036854775807) (hU : U16 lw) :
    Calls Try.prog 46 #[.agg #[.int .i64 k.new, .int .i64 k.wear.lo, .int .i64 k.wear.hi, .slice a k.steps.length c], .slice as_ ls.length cs_, .slice an ns.length cn, .slice ab ws.length cb, .int .i64 (f : Int), .int .i64 (u : Int), .slice aw lw.length cw] w (fun e w' => e = .returned (.bool (failB k lw ns ws f u z0)) ∧ Below w.heap.size w w') := by
 have HK := hid hK; have HR := hid hR; have HRs := hid hRs; have HRn := hid hRn; have HRb := hid hRb; have HRw := hid hRw; have HU := hid hU; have Hnw := hid hnw; have Hs0 := hid hs0; clear hK hR hRs hRn hRb hRw hU hnw hs0
 refine enter_F Try.func46 rfl Try.ntmps46 (by simp) ?_
 intro s0 hs; have sl0 : s0 0 = .agg #[.int .i64 k.new, .int .i64 k.wear.lo, .int .i64 k.wear.hi, .slice a k.steps.length c] := hs 0 (by simp); have sl1 : s0 1 = .slice as_ ls.length cs_ := hs 1 (by simp); have sl2 : s0 2 = .slice an ns.length cn := hs 2 (by simp); have sl3 : s0 3 = .slice ab ws.length cb := hs 3 (by simp); have sl4 : s0 4 = .int .i64 (f : Int) := hs 4 (by simp); have sl5 : s0 5 = .int .i64 (u : Int) := hs 5 (by simp); have sl6 : s0 6 = .slice aw lw.length cw := hs 6 (by simp); clear hs; have HB := hid (OldB.refl [] w)
 repeat ((fail_if_success refine stp ?_); with_reducible go_step)
 refine region_F ?_; refine pa (fun w1 B7 hB kb7' hb2 => ?_); have gb7 := HB.out.gB hB; have eb7 := eB hB; clear hB; replace HB := hid (HB.out.below hb2); clear hb2; have kb7 := kb7'; clear kb7'; have qb7 := kb7.1; refine pl ?_; refine listF_abs (fun s3 z' => ?_); replace sl1 := gs 1 z' sl1; replace sl2 := gs 2 z' sl2; replace sl3 := gs 3 z' sl3; replace sl4 := gs 4 z' sl4; replace sl5 := gs 5 z' sl5; replace sl6 := gs 6 z' sl6; have sl7 := gu 7 z'; clear z' sl0; refine listF_nil ?_
 repeat ((fail_if_success refine stp ?_); with_reducible go_step)
 obtain ⟨bs, os, rfl, hbs, cS⟩ := RdInts.ne (Rd.oldB HRs.out HB.out (by simp)) hf; rw [← getD_get hf 0, Hs0.out] at cS
 have hff : (f : Int) < ls.length := by omega
 have cb7_0 := kb7.cell 0 rfl; have cb7_1 := kb7.cell 1 rfl; have cb7_2 := kb7.cell 2 rfl; have cb7_3 := kb7.cell 3 rfl; refine regionR_F [] [] [] [.q [], .q [], .q [], .q [], .q [], .q [], .q []] [?v25_0, ?v25_1, ?v25_2, ?v25_3, ?v25_4, ?v25_5, ?v25_6] [fun _ => [], fun _ => [], fun _ => [], fun _ => [], fun _ => [], fun _ => [], fun _ => []] (by kernel_rfl) (by kernel_rfl) (by kernel_rfl) (by kernel_rfl) (by kernel_rfl) (by first | exact List.nodup_nil | exact List.nodup_singleton _ | (simp; done) | (simp; omega)) bc_nil ?walk25 ?dep25
 case walk25 =>
  refine rq ?_; refine walkR_q (by rfl) (fun X hX wq hwq hrq => ?_) ?_
  · obtain ⟨hcq, hfq⟩ := hwq.b0
    clear hrq; go_simp
    (with_reducible exact (rneeded_any k a c 1000 _ (Rd.oldB HR.out (HB.out.more hwq.unDrew (by simp; try omega)) (by simp)) HK.out (top_ok HK.out)))
  iterate 5 refine rq ?_
  refine walkR_nil (fun X hX w4 hwz hcz => ?_); clear hX hcz
  (try clear X)
  skip; have hb5 := hwz.unDrew; clear hwz; clear cb7_0 cb7_1 cb7_2 cb7_3; clear qb7; replace kb7 := kb7.oldB hb5 (by first | (simp; done) | (simp; omega)); replace HB := hid (HB.out.more hb5 (by simp; try omega)); clear hb5; have qb7 := kb7.1; refine pl ?_; refine listF_abs (fun s6 z' => ?_); replace sl2 := gs 2 z' sl2; replace sl3 := gs 3 z' sl3; replace sl4 := gs 4 z' sl4; replace sl5 := gs 5 z' sl5; replace sl6 := gs 6 z' sl6; replace sl7 := gs 7 z' sl7; have sl15 := gu 15 z'; have sl16 := gu 16 z'; clear z' sl1; refine listF_nil ?_
  repeat ((fail_if_success refine stp ?_); with_reducible go_step)
  refine region_F ?_; refine pl ?_; refine pl ?_; refine listF_abs (fun s7 z' => ?_); replace sl2 := gs 2 z' sl2; replace sl3 := gs 3 z' sl3; replace sl4 := gs 4 z' sl4; replace sl5 := gs 5 z' sl5; replace sl6 := gs 6 z' sl6; replace sl7 := gs 7 z' sl7; replace sl15 := gs 15 z' sl15; replace sl16 := gs 16 z' sl16; have sl17 := gu 17 z'; clear z'; refine listF_nil ?_
  repeat ((fail_if_success refine stp ?_); with_reducible go_step)
  have hc0_2 := hid sl2; have hc0_3 := hid sl3; have hc0_4 := hid sl4; have hc0_5 := hid sl5; have hc0_6 := hid sl6; have hc0_7 := hid sl7; have hc0_15 := hid sl15; refine loop_F (n := 63) (fun kJ sJ wJ => ∃ (t d : Nat) (z : Int), kJ = u + 1 - t ∧ sJ 16 = .int .i64 z ∧ sJ 17 = .int .i64 (t : Int) ∧ sJ 2 = s7 2 ∧ sJ 3 = s7 3 ∧ sJ 4 = s7 4 ∧ sJ 5 = s7 5 ∧ sJ 6 = s7 6 ∧ sJ 7 = s7 7 ∧ sJ 15 = s7 15 ∧ OldB [] w4 wJ ∧ Hid (t = f + d) ∧ Hid (z = if d = 0 then z0 else pathS k lw ns ws f z0 (d - 1)) ∧ (0 ≤ z ∧ z ≤ 1000000) ∧ (f ≤ t ∧ t ≤ u + 1) ∧ (Hid (∀ e, e < d → needed k 1000 ≤ pathS k lw ns ws f z0 e))) ⟨f, 0, z0, rfl, (by first | exact sl16 | (rw [sl16]; go_num) | (rw [sl16]; rfl)), (by first | exact sl17 | (rw [sl17]; go_num) | (rw [sl17]; rfl)), rfl, rfl, rfl, rfl, rfl, rfl, rfl, OldB.refl _ _, hid rfl, hid (by rw [if_pos rfl]), hsb, ⟨Nat.le_refl _, by omega⟩, hid (fun e he => absurd he (by omega))⟩ ?_; clear sl16 sl17
  rintro kJ s8 w9 ⟨t, d, z, rfl, sl16, sl17, e2, e3, e4, e5, e6, e7, e15, hb10, Htd, Hs, hsb1, htb, Hall⟩; replace sl2 := e2.trans sl2; clear e2; replace sl3 := e3.trans sl3; clear e3; replace sl4 := e4.trans sl4; clear e4; replace sl5 := e5.trans sl5; clear e5; replace sl6 := e6.trans sl6; clear e6; replace sl7 := e7.trans sl7; clear e7; replace sl15 := e15.trans sl15; clear e15; have hoJ := hb10; clear qb7; replace kb7 := kb7.oldB hb10 (by first | (simp; done) | (simp; omega)); replace HB := hid (HB.out.more hb10 (by simp; try omega)); clear hb10; have qb7 := kb7.1; have HoJ := hid hoJ; clear hoJ; have HL11 := HoJ; clear HoJ
  repeat ((fail_if_success refine stp ?_); with_reducible go_step)
  refine region_F ?_
  iterate 3 refine pl ?_
  refine listF_abs (fun s12 z' => ?_); replace sl2 := gs 2 z' sl2; replace sl3 := gs 3 z' sl3; replace sl4 := gs 4 z' sl4; replace sl5 := gs 5 z' sl5; replace sl6 := gs 6 z' sl6; replace sl7 := gs 7 z' sl7; replace sl15 := gs 15 z' sl15; replace sl16 := gs 16 z' sl16; replace sl17 := gs 17 z' sl17; have sl28 := gu 28 z'; clear z'; refine listF_nil ?_
  repeat ((fail_if_success refine stp ?_); with_reducible go_step)
  refine cond_E sl28 (by decide) ?_ ?_ <;> (clear sl28; intro h28 sl28)
  ·skip
   have htu : t ≤ u := by have h := h28; simp at h; omega
   repeat ((fail_if_success refine stp ?_); with_reducible go_step)
   refine region_F ?_
   iterate 3 refine pl ?_
   refine listF_abs (fun s13 z' => ?_); replace sl2 := gs 2 z' sl2; replace sl3 := gs 3 z' sl3; replace sl4 := gs 4 z' sl4; replace sl5 := gs 5 z' sl5; replace sl6 := gs 6 z' sl6; replace sl7 := gs 7 z' sl7; replace sl15 := gs 15 z' sl15; replace sl16 := gs 16 z' sl16; replace sl17 := gs 17 z' sl17; have sl33 := gu 33 z'; clear z' sl28; refine listF_nil ?_
   repeat ((fail_if_success refine stp ?_); with_reducible go_step)
   have hj14_2 := hid sl2; have hj14_3 := hid sl3; have hj14_4 := hid sl4; have hj14_5 := hid sl5; have hj14_6 := hid sl6; have hj14_7 := hid sl7; have hj14_15 := hid sl15; have hj14_17 := hid sl17; refine cut_any (fun sJ wJ => ∃ (z1 : Int), sJ 16 = .int .i64 z1 ∧ sJ 2 = s13 2 ∧ sJ 3 = s13 3 ∧ sJ 4 = s13 4 ∧ sJ 5 = s13 5 ∧ sJ 6 = s13 6 ∧ sJ 7 = s13 7 ∧ sJ 15 = s13 15 ∧ sJ 17 = s13 17 ∧ OldB [] w9 wJ ∧ (Hid (z1 = preS k lw ns ws f z0 d)) ∧ (0 ≤ z1 ∧ z1 ≤ 1000000)) ?_ ?_
   ·skip
    have HL15 := hid (OldB.refl [] w9)
    refine cond_E sl33 (by decide) ?_ ?_ <;> (clear sl33; intro h33 sl33)
    ·skip
     have htf : f < t := by have h := h33; simp at h; omega
     have Hpre := hid (show (max 0 (z - k.wear.lo - wearAt lw t % (k.wear.hi - k.wear.lo + 1))) = preS k lw ns ws f z0 d by have h1 := Htd.out; obtain ⟨e, rfl⟩ : ∃ e, d = e + 1 := ⟨d - 1, by omega⟩; have h2 := Hs.out; rw [if_neg (by omega)] at h2; rw [h2, h1]; rfl); have hb1 := wornS_bd1 HK.out hsb1 (wearAt_bd HU.out t)
     repeat ((fail_if_success refine stp ?_); with_reducible go_step)
     have cb7_0 := kb7.cell 0 rfl; have cb7_1 := kb7.cell 1 rfl; have cb7_2 := kb7.cell 2 rfl; have cb7_3 := kb7.cell 3 rfl; refine regionR_F [] [] [] [.q [], .q [], .q [], .q [], .q []] [?v26_0, ?v26_1, ?v26_2, ?v26_3, ?v26_4] [fun _ => [], fun _ => [], fun _ => [], fun _ => [], fun _ => []] (by kernel_rfl) (by kernel_rfl) (by kernel_rfl) (by kernel_rfl) (by kernel_rfl) (by first | exact List.nodup_nil | exact List.nodup_singleton _ | (simp; done) | (simp; omega)) bc_nil ?walk26 ?dep26
     case walk26 =>
      iterate 4 refine rq ?_
      refine walkR_q (by rfl) (fun X hX wq hwq hrq => ?_) ?_
      · obtain ⟨hcq, hfq⟩ := hwq.b0
        clear hrq; go_simp
        (with_reducible exact (wear_any aw cw lw t _ hlw (by omega) (Rd.oldB HRw.out (HB.out.more hwq.unDrew (by simp; try omega)) (by simp))))
      refine walkR_nil (fun X hX w16 hwz hcz => ?_); clear hX hcz
      (try clear X)
      skip; have hb17 := hwz.unDrew; clear hwz; clear cb7_0 cb7_1 cb7_2 cb7_3; clear qb7; replace kb7 := kb7.oldB hb17 (by first | (simp; done) | (simp; omega)); replace HL11 := hid (HL11.out.more hb17 (by simp; try omega)); replace HL15 := hid (HL15.out.more hb17 (by simp; try omega)); replace HB := hid (HB.out.more hb17 (by simp; try omega)); clear hb17; have qb7 := kb7.1; refine listF_step rfl (fun K' hK => ?_); unfold opF; go_simp; refine (worn_any k a c z _ _ HK.out hsb1 (wearAt_bd HU.out t)).mono ?_; rintro e w18 ⟨rfl, hb19⟩; refine ⟨_, rfl, hK _ _ ?_⟩; clear hK K'; clear qb7; replace kb7 := kb7.at hb19; replace HL11 := hid (HL11.out.below hb19); replace HL15 := hid (HL15.out.below hb19); replace HB := hid (HB.out.below hb19); clear hb19; have qb7 := kb7.1; refine pl ?_; refine listF_abs (fun s20 z' => ?_); replace sl2 := gs 2 z' sl2; replace sl3 := gs 3 z' sl3; replace sl4 := gs 4 z' sl4; replace sl5 := gs 5 z' sl5; replace sl6 := gs 6 z' sl6; replace sl7 := gs 7 z' sl7
      replace sl15 := gs 15 z' sl15; replace sl16 := gu 16 z'; replace sl17 := gs 17 z' sl17; clear z' sl33; refine listF_nil ?_
      repeat ((fail_if_success refine stp ?_); with_reducible go_step)
      exact ⟨rfl, _, rfl, (max 0 (z - k.wear.lo - wearAt lw t % (k.wear.hi - k.wear.lo + 1))), (by first | (with_reducible exact sl16) | (rw [sl16]; (with_reducible go_num); done) | (rw [sl16, IntWalk.i64_in] <;> first | ((with_reducible go_num); done) | omega) | (rw [sl16]; go_num; done) | (rw [sl16]; simp; done) | (rw [sl16]; simp; omega)), (sl2.trans hj14_2.out.symm), (sl3.trans hj14_3.out.symm), (sl4.trans hj14_4.out.symm), (sl5.trans hj14_5.out.symm), (sl6.trans hj14_6.out.symm), (sl7.trans hj14_7.out.symm), (sl15.trans hj14_15.out.symm), (sl17.trans hj14_17.out.symm), HL15.out, Hpre, hb1⟩
     case dep26 =>
       iterate 5 refine dR ?_
       exact depR_nil
    ·skip
     have htf : t = f := by have h := h33; simp at h; omega
     have Hpre := hid (show z = preS k lw ns ws f z0 d by have h1 := Htd.out; have h3 : d = 0 := (by omega); subst h3; exact Hs.out)
     repeat ((fail_if_success refine stp ?_); with_reducible go_step)
     exact ⟨rfl, _, rfl, z, (by first | (with_reducible exact sl16) | (rw [sl16]; (with_reducible go_num); done) | (rw [sl16, IntWalk.i64_in] <;> first | ((with_reducible go_num); done) | omega) | (rw [sl16]; go_num; done) | (rw [sl16]; simp; done) | (rw [sl16]; simp; omega)), (sl2.trans hj14_2.out.symm), (sl3.trans hj14_3.out.symm), (sl4.trans hj14_4.out.symm), (sl5.trans hj14_5.out.symm), (sl6.trans hj14_6.out.symm), (sl7.trans hj14_7.out.symm), (sl15.trans hj14_15.out.symm), (sl17.trans hj14_17.out.symm), HL15.out, Hpre, hsb1⟩
   ·skip
    clear sl16 sl33; rintro s21 w22 ⟨z1, sl16, e2, e3, e4, e5, e6, e7, e15, e17, hb23, Hs1, hs1⟩; replace sl2 := e2.trans sl2; clear e2 hj14_2; replace sl3 := e3.trans sl3; clear e3 hj14_3; replace sl4 := e4.trans sl4; clear e4 hj14_4; replace sl5 := e5.trans sl5; clear e5 hj14_5; replace sl6 := e6.trans sl6; clear e6 hj14_6; replace sl7 := e7.trans sl7; clear e7 hj14_7; replace sl15 := e15.trans sl15; clear e15 hj14_15; replace sl17 := e17.trans sl17; clear e17 hj14_17; clear qb7; replace kb7 := kb7.oldB hb23 (by first | (simp; done) | (simp; omega)); replace HL11 := hid (HL11.out.more hb23 (by simp; try omega)); replace HB := hid (HB.out.more hb23 (by simp; try omega)); clear hb23; have qb7 := kb7.1
    repeat ((fail_if_success refine stp ?_); with_reducible go_step)
    refine region_F ?_; refine pl ?_; refine listF_abs (fun s24 z' => ?_); replace sl2 := gs 2 z' sl2; replace sl3 := gs 3 z' sl3; replace sl4 := gs 4 z' sl4; replace sl5 := gs 5 z' sl5; replace sl6 := gs 6 z' sl6; replace sl7 := gs 7 z' sl7; replace sl15 := gs 15 z' sl15; replace sl16 := gs 16 z' sl16; replace sl17 := gs 17 z' sl17; have sl18 := gu 18 z'; clear z'; refine listF_nil ?_
    repeat ((fail_if_success refine stp ?_); with_reducible go_step)
    have hc1_2 := hid sl2; have hc1_3 := hid sl3; have hc1_4 := hid sl4; have hc1_5 := hid sl5; have hc1_6 := hid sl6; have hc1_7 := hid sl7; have hc1_15 := hid sl15; have hc1_17 := hid sl17; refine loop_F (n := 63) (fun kJ sJ wJ => ∃ (j : Nat) (z2 : Int), kJ = ns.length - j ∧ sJ 16 = .int .i64 z2 ∧ sJ 18 = .int .i64 (j : Int) ∧ sJ 2 = s24 2 ∧ sJ 3 = s24 3 ∧ sJ 4 = s24 4 ∧ sJ 5 = s24 5 ∧ sJ 6 = s24 6 ∧ sJ 7 = s24 7 ∧ sJ 15 = s24 15 ∧ sJ 17 = s24 17 ∧ OldB [] w22 wJ ∧ j ≤ ns.length ∧ (0 ≤ z2 ∧ z2 ≤ 1000000) ∧ Hid (z2 = if replUp ns ws t j then k.new else z1)) ⟨0, z1, rfl, (by first | exact sl16 | (rw [sl16]; go_num) | (rw [sl16]; rfl)), (by first | exact sl18 | (rw [sl18]; go_num) | (rw [sl18]; rfl)), rfl, rfl, rfl, rfl, rfl, rfl, rfl, rfl, OldB.refl _ _, Nat.zero_le _, hs1, hid (by simp [replUp])⟩ ?_; clear sl16 sl18; rintro kJ s25 w26 ⟨j, z2, rfl, sl16, sl18, e2, e3, e4, e5, e6, e7, e15, e17, hb27, hjn, hsb2, Hs2⟩
    replace sl2 := e2.trans sl2; clear e2; replace sl3 := e3.trans sl3; clear e3; replace sl4 := e4.trans sl4; clear e4; replace sl5 := e5.trans sl5; clear e5; replace sl6 := e6.trans sl6; clear e6; replace sl7 := e7.trans sl7; clear e7; replace sl15 := e15.trans sl15; clear e15; replace sl17 := e17.trans sl17; clear e17; have hoJ := hb27; clear qb7; replace kb7 := kb7.oldB hb27 (by first | (simp; done) | (simp; omega)); replace HL11 := hid (HL11.out.more hb27 (by simp; try omega)); replace HB := hid (HB.out.more hb27 (by simp; try omega)); clear hb27; have qb7 := kb7.1; have HoJ := hid hoJ; clear hoJ; have HL28 := HoJ; clear HoJ
    repeat ((fail_if_success refine stp ?_); with_reducible go_step)
    refine region_F ?_
    iterate 4 refine pl ?_
    refine listF_abs (fun s29 z' => ?_); replace sl2 := gs 2 z' sl2; replace sl3 := gs 3 z' sl3; replace sl4 := gs 4 z' sl4; replace sl5 := gs 5 z' sl5; replace sl6 := gs 6 z' sl6; replace sl7 := gs 7 z' sl7; replace sl15 := gs 15 z' sl15; replace sl16 := gs 16 z' sl16; replace sl17 := gs 17 z' sl17; replace sl18 := gs 18 z' sl18; have sl43 := gu 43 z'; clear z'; refine listF_nil ?_
    repeat ((fail_if_success refine stp ?_); with_reducible go_step)
    refine cond_E sl43 (by decide) ?_ ?_ <;> (clear sl43; intro h43 sl43)
    ·skip
     have hj : j < ns.length := by simpa using h43
     have hjj : (j : Int) < ns.length := by omega
     obtain ⟨bn, on, rfl, hbn, cN⟩ := RdInts.ne (Rd.oldB HRn.out HB.out (by simp)) hj
     have hjw : j < ws.length := by rw [Hnw.out]; exact hj
     have hjwi : (j : Int) < ws.length := by omega
     obtain ⟨bb, ob, rfl, hbb, cB⟩ := RdB.ne (Rd.oldB HRb.out HB.out (by simp)) hjw; obtain ⟨nj, hnj⟩ : ∃ y, ns[j] = y := ⟨_, rfl⟩; obtain ⟨bj, hbj⟩ : ∃ y, ws[j] = y := ⟨_, rfl⟩; rw [hnj] at cN; rw [hbj] at cB; have Hrs := hid (show replUp ns ws t (j + 1) = (replUp ns ws t j || (decide (nj = (t : Int)) && bj)) by rw [repl_succ, getD_get hj, getD_get hjw, hnj, hbj]); clear hnj hbj
     repeat ((fail_if_success refine stp ?_); with_reducible go_step)
     refine region_F ?_
     iterate 7 refine pl ?_
     refine listF_abs (fun s30 z' => ?_); replace sl2 := gs 2 z' sl2; replace sl3 := gs 3 z' sl3; replace sl4 := gs 4 z' sl4; replace sl5 := gs 5 z' sl5; replace sl6 := gs 6 z' sl6; replace sl7 := gs 7 z' sl7; replace sl15 := gs 15 z' sl15; replace sl16 := gs 16 z' sl16; replace sl17 := gs 17 z' sl17; replace sl18 := gs 18 z' sl18; have sl52 := gu 52 z'; clear z' sl43
     refine boolG sl52 (fun sl52' h52 => ?_) (fun sl52' h52 => ?_) <;> (clear sl52; have sl52 := sl52'; clear sl52')
     ·skip
      have e52 : nj = (t : Int) := by simpa using h52
      iterate 4 refine py ?_
      refine pl ?_; refine listF_abs (fun s31 z' => ?_); replace sl2 := gs 2 z' sl2; replace sl3 := gs 3 z' sl3; replace sl4 := gs 4 z' sl4; replace sl5 := gs 5 z' sl5; replace sl6 := gs 6 z' sl6; replace sl7 := gs 7 z' sl7; replace sl15 := gs 15 z' sl15; replace sl16 := gs 16 z' sl16; replace sl17 := gs 17 z' sl17; replace sl18 := gs 18 z' sl18; have sl53 := gu 53 z'; have sl54 := gu 54 z'; have sl55 := gu 55 z'; have sl56 := gu 56 z'; have sl57 := gu 57 z'; clear z' sl52; refine listF_nil ?_
      repeat ((fail_if_success refine stp ?_); with_reducible go_step)
      refine cond_E sl57 (by decide) ?_ ?_ <;> (clear sl57; intro h57 sl57)
      ·skip
       have Hnx := hid (show replUp ns ws t (j + 1) = true by rw [Hrs.out, show bj = true from h57]; simp [e52])
       repeat ((fail_if_success refine stp ?_); with_reducible go_step)
       refine region_F ?_; refine pl ?_; have cb7_0 := kb7.cell 0 rfl; have cb7_1 := kb7.cell 1 rfl; have cb7_2 := kb7.cell 2 rfl; have cb7_3 := kb7.cell 3 rfl; refine pl ?_; refine pl ?_; refine listF_abs (fun s32 z' => ?_); replace sl2 := gs 2 z' sl2; replace sl3 := gs 3 z' sl3; replace sl4 := gs 4 z' sl4; replace sl5 := gs 5 z' sl5; replace sl6 := gs 6 z' sl6; replace sl7 := gs 7 z' sl7; replace sl15 := gs 15 z' sl15; replace sl16 := gu 16 z'; replace sl17 := gs 17 z' sl17; replace sl18 := gs 18 z' sl18; replace sl53 := gs 53 z' sl53; replace sl54 := gs 54 z' sl54; replace sl55 := gs 55 z' sl55; replace sl56 := gs 56 z' sl56; clear z' sl57; refine listF_nil ?_
       repeat ((fail_if_success refine stp ?_); with_reducible go_step)
       refine region_F ?_
       iterate 3 refine pl ?_
       refine listF_abs (fun s33 z' => ?_); replace sl2 := gs 2 z' sl2; replace sl3 := gs 3 z' sl3; replace sl4 := gs 4 z' sl4; replace sl5 := gs 5 z' sl5; replace sl6 := gs 6 z' sl6; replace sl7 := gs 7 z' sl7; replace sl15 := gs 15 z' sl15; replace sl16 := gs 16 z' sl16; replace sl17 := gs 17 z' sl17; replace sl18 := gu 18 z'; replace sl53 := gs 53 z' sl53; replace sl54 := gs 54 z' sl54; replace sl55 := gs 55 z' sl55; replace sl56 := gs 56 z' sl56; clear z'; refine listF_nil ?_
       repeat ((fail_if_success refine stp ?_); with_reducible go_step)
       clear cb7_0 cb7_1 cb7_2 cb7_3; refine ⟨_, _, rfl, ?_, j + 1, k.new, rfl, (by first | (with_reducible exact sl16) | (rw [sl16]; (with_reducible go_num); done) | (rw [sl16, IntWalk.i64_in] <;> first | ((with_reducible go_num); done) | omega) | (rw [sl16]; go_num; done) | (rw [sl16]; simp; done) | (rw [sl16]; simp; omega)), (by first | (with_reducible exact sl18) | (rw [sl18]; (with_reducible go_num); done) | (rw [sl18, IntWalk.i64_in] <;> first | ((with_reducible go_num); done) | omega) | (rw [sl18]; go_num; done) | (rw [sl18]; simp; done) | (rw [sl18]; simp; omega)), (sl2.trans hc1_2.out.symm), (sl3.trans hc1_3.out.symm), (sl4.trans hc1_4.out.symm), (sl5.trans hc1_5.out.symm), (sl6.trans hc1_6.out.symm), (sl7.trans hc1_7.out.symm), (sl15.trans hc1_15.out.symm), (sl17.trans hc1_17.out.symm), HL28.out, by omega, ⟨by have := HK.out.n0; omega, HK.out.n1⟩, hid (by rw [Hnx.out]; simp)⟩
       omega
      ·skip
       have Hnx := hid (show replUp ns ws t (j + 1) = replUp ns ws t j by rw [Hrs.out, show bj = false from h57]; simp)
       repeat ((fail_if_success refine stp ?_); with_reducible go_step)
       refine region_F ?_
       iterate 3 refine pl ?_
       refine listF_abs (fun s34 z' => ?_); replace sl2 := gs 2 z' sl2; replace sl3 := gs 3 z' sl3; replace sl4 := gs 4 z' sl4; replace sl5 := gs 5 z' sl5; replace sl6 := gs 6 z' sl6; replace sl7 := gs 7 z' sl7; replace sl15 := gs 15 z' sl15; replace sl16 := gs 16 z' sl16; replace sl17 := gs 17 z' sl17; replace sl18 := gu 18 z'; replace sl53 := gs 53 z' sl53; replace sl54 := gs 54 z' sl54; replace sl55 := gs 55 z' sl55; replace sl56 := gs 56 z' sl56; clear z' sl57; refine listF_nil ?_
       repeat ((fail_if_success refine stp ?_); with_reducible go_step)
       refine ⟨_, _, rfl, ?_, j + 1, z2, rfl, (by first | (with_reducible exact sl16) | (rw [sl16]; (with_reducible go_num); done) | (rw [sl16, IntWalk.i64_in] <;> first | ((with_reducible go_num); done) | omega) | (rw [sl16]; go_num; done) | (rw [sl16]; simp; done) | (rw [sl16]; simp; omega)), (by first | (with_reducible exact sl18) | (rw [sl18]; (with_reducible go_num); done) | (rw [sl18, IntWalk.i64_in] <;> first | ((with_reducible go_num); done) | omega) | (rw [sl18]; go_num; done) | (rw [sl18]; simp; done) | (rw [sl18]; simp; omega)), (sl2.trans hc1_2.out.symm), (sl3.trans hc1_3.out.symm), (sl4.trans hc1_4.out.symm), (sl5.trans hc1_5.out.symm), (sl6.trans hc1_6.out.symm), (sl7.trans hc1_7.out.symm), (sl15.trans hc1_15.out.symm), (sl17.trans hc1_17.out.symm), HL28.out, by omega, hsb2, hid (by rw [Hnx.out]; exact Hs2.out)⟩
       omega
     ·skip
      have e52 : ¬ nj = (t : Int) := by simpa using h52
      have Hnx := hid (show replUp ns ws t (j + 1) = replUp ns ws t j by rw [Hrs.out]; simp [e52])
      refine pn false ?_
      refine pn false ?_; refine pn false ?_; refine pn false ?_; refine pl ?_; refine listF_abs (fun s35 z' => ?_); replace sl2 := gs 2 z' sl2; replace sl3 := gs 3 z' sl3; replace sl4 := gs 4 z' sl4; replace sl5 := gs 5 z' sl5; replace sl6 := gs 6 z' sl6; replace sl7 := gs 7 z' sl7; replace sl15 := gs 15 z' sl15; replace sl16 := gs 16 z' sl16; replace sl17 := gs 17 z' sl17; replace sl18 := gs 18 z' sl18; have sl57 := gu 57 z'; clear z' sl52; refine listF_nil ?_
      repeat ((fail_if_success refine stp ?_); with_reducible go_step)
      refine cond_f ?_
      repeat ((fail_if_success refine stp ?_); with_reducible go_step)
      refine region_F ?_
      iterate 3 refine pl ?_
      refine listF_abs (fun s36 z' => ?_); replace sl2 := gs 2 z' sl2; replace sl3 := gs 3 z' sl3; replace sl4 := gs 4 z' sl4; replace sl5 := gs 5 z' sl5; replace sl6 := gs 6 z' sl6; replace sl7 := gs 7 z' sl7; replace sl15 := gs 15 z' sl15; replace sl16 := gs 16 z' sl16; replace sl17 := gs 17 z' sl17; replace sl18 := gu 18 z'; clear z' sl57; refine listF_nil ?_
      repeat ((fail_if_success refine stp ?_); with_reducible go_step)
      refine ⟨_, _, rfl, ?_, j + 1, z2, rfl, (by first | (with_reducible exact sl16) | (rw [sl16]; (with_reducible go_num); done) | (rw [sl16, IntWalk.i64_in] <;> first | ((with_reducible go_num); done) | omega) | (rw [sl16]; go_num; done) | (rw [sl16]; simp; done) | (rw [sl16]; simp; omega)), (by first | (with_reducible exact sl18) | (rw [sl18]; (with_reducible go_num); done) | (rw [sl18, IntWalk.i64_in] <;> first | ((with_reducible go_num); done) | omega) | (rw [sl18]; go_num; done) | (rw [sl18]; simp; done) | (rw [sl18]; simp; omega)), (sl2.trans hc1_2.out.symm), (sl3.trans hc1_3.out.symm), (sl4.trans hc1_4.out.symm), (sl5.trans hc1_5.out.symm), (sl6.trans hc1_6.out.symm), (sl7.trans hc1_7.out.symm), (sl15.trans hc1_15.out.symm), (sl17.trans hc1_17.out.symm), HL28.out, by omega, hsb2, hid (by rw [Hnx.out]; exact Hs2.out)⟩
      omega
    ·skip
     have hj : j = ns.length := by have h := h43; simp at h; omega
     have Hpd := hid (show z2 = pathS k lw ns ws f z0 d by rw [path_pre, ← Htd.out, ← hj, ← Hs1.out]; exact Hs2.out)
     repeat ((fail_if_success refine stp ?_); with_reducible go_step)
     clear HL28; clear hc1_2 hc1_3 hc1_4 hc1_5 hc1_6 hc1_7 hc1_15 hc1_17; refine region_F ?_
     iterate 3 refine pl ?_
     refine listF_abs (fun s37 z' => ?_); replace sl2 := gs 2 z' sl2; replace sl3 := gs 3 z' sl3; replace sl4 := gs 4 z' sl4; replace sl5 := gs 5 z' sl5; replace sl6 := gs 6 z' sl6; replace sl7 := gs 7 z' sl7; replace sl15 := gs 15 z' sl15; replace sl16 := gs 16 z' sl16; replace sl17 := gs 17 z' sl17; have sl62 := gu 62 z'; clear z' sl18 sl43; refine listF_nil ?_
     repeat ((fail_if_success refine stp ?_); with_reducible go_step)
     refine cond_E sl62 (by decide) ?_ ?_ <;> (clear sl62; intro h62 sl62)
     ·skip
      have Hfin := hid (show failB k lw ns ws f u z0 = true from fail_yes (d := d) (by have := Htd.out; omega) (by rw [← Hpd.out]; simpa using h62))
      repeat ((fail_if_success refine stp ?_); with_reducible go_step)
      refine region_F ?_; refine pl ?_; refine listF_abs (fun s38 z' => ?_); have sl14 := gu 14 z'; clear z' sl2 sl3 sl4 sl5 sl6 sl7 sl15 sl16 sl17 sl62; refine listF_nil ?_
      repeat ((fail_if_success refine stp ?_); with_reducible go_step)
      refine ret_F _ (res_t Try.results46 ((getD_F (by decide)).trans sl14)) ?_; exact ⟨ret_bool Hfin.out.symm, HB.out.toBelow⟩
     ·skip
      have h62' : needed k 1000 ≤ z2 := by have h := h62; simp at h; omega
      repeat ((fail_if_success refine stp ?_); with_reducible go_step)
      refine region_F ?_
      iterate 3 refine pl ?_
      refine listF_abs (fun s39 z' => ?_); replace sl2 := gs 2 z' sl2; replace sl3 := gs 3 z' sl3; replace sl4 := gs 4 z' sl4; replace sl5 := gs 5 z' sl5; replace sl6 := gs 6 z' sl6; replace sl7 := gs 7 z' sl7; replace sl15 := gs 15 z' sl15; replace sl16 := gs 16 z' sl16; replace sl17 := gu 17 z'; clear z' sl62; refine listF_nil ?_
      repeat ((fail_if_success refine stp ?_); with_reducible go_step)
      refine ⟨_, _, rfl, ?_, t + 1, d + 1, z2, rfl, (by first | (with_reducible exact sl16) | (rw [sl16]; (with_reducible go_num); done) | (rw [sl16, IntWalk.i64_in] <;> first | ((with_reducible go_num); done) | omega) | (rw [sl16]; go_num; done) | (rw [sl16]; simp; done) | (rw [sl16]; simp; omega)), (by first | (with_reducible exact sl17) | (rw [sl17]; (with_reducible go_num); done) | (rw [sl17, IntWalk.i64_in] <;> first | ((with_reducible go_num); done) | omega) | (rw [sl17]; go_num; done) | (rw [sl17]; simp; done) | (rw [sl17]; simp; omega)), (sl2.trans hc0_2.out.symm), (sl3.trans hc0_3.out.symm), (sl4.trans hc0_4.out.symm), (sl5.trans hc0_5.out.symm), (sl6.trans hc0_6.out.symm), (sl7.trans hc0_7.out.symm), (sl15.trans hc0_15.out.symm), HL11.out, hid (by rw [Htd.out]; omega), hid (by rw [if_neg (by omega), Nat.add_sub_cancel]; exact Hpd.out), hsb2, ⟨by omega, by omega⟩, hid (fun e he => by by_cases h : e = d; (rw [h, ← Hpd.out]; exact h62'); exact Hall.out e (by omega))⟩
      omega
  ·skip
   have htu : u < t := by have h := h28; simp at h; omega
   have Hfin := hid (show failB k lw ns ws f u z0 = false from fail_no (fun e he => Hall.out e (by have := Htd.out; omega)))
   repeat ((fail_if_success refine stp ?_); with_reducible go_step)
   clear HL11; clear hc0_2 hc0_3 hc0_4 hc0_5 hc0_6 hc0_7 hc0_15; refine region_F ?_; refine pl ?_; refine listF_abs (fun s40 z' => ?_); have sl14 := gu 14 z'; clear z' sl2 sl3 sl4 sl5 sl6 sl7 sl15 sl16 sl17 sl28; refine listF_nil ?_
   repeat ((fail_if_success refine stp ?_); with_reducible go_step)
   refine ret_F _ (res_t Try.results46 ((getD_F (by decide)).trans sl14)) ?_; exact ⟨ret_bool Hfin.out.symm, HB.out.toBelow⟩
 case dep25 =>
   iterate 7 refine dR ?_
   exact depR_nil
end

section
open Go.RowKit


theorem asked_new {k : Kd} (hE : kdErr k = 0) {f : Nat} (hf : f ≤ 100000) : asked k [] f = (⟨max 0 (k.new - f * k.wear.hi), max 0 (k.new - f * k.wear.lo)⟩, 0) := by
  have hA : AOk k [] f := ⟨hE, Nat.zero_le _, fun c h => (by cases h), fun c h => (by cases h), by omega, by omega, by show (0 : Int) ≤ f; omega⟩; rw [asked_of hA]
  rfl
theorem incr_of {l : List Int} (h1 : ndec l = true) (h2 : dups l = false) : Incr l := by
  have key : ∀ i, i + 1 < l.length → l.getD i 0 < l.getD (i + 1) 0 := by
    intro i hi; have a := ndec_iff.1 h1 i hi
    have b : ¬ dups l = true := by rw [h2]; decide
    rw [dups_iff] at b
    have c : ¬ l[i] = l[i + 1] := fun e => b ⟨i, hi, e⟩
    rw [getD_get (show i < l.length by omega), getD_get hi]
    omega
  intro i j hij
  induction j with
  | zero => omega
  | succ j ih =>
    intro hj; have k1 := key j hj
    rcases Nat.lt_or_ge i j with h | h
    · have := ih h (by omega); omega
    · have e : i = j := by omega
      subst e; exact k1
theorem rep_zero {rack : List Vl} {l : List Int} {f u : Int} (h : repErr rack l f u = 0) : l.length ≤ 20 ∧ Incr l ∧ f ≤ u ∧ rackErr f rack = 0 := by
  unfold repErr at h
  by_cases h1 : 12 < rack.length ∨ 20 < l.length
  · rw [if_pos h1] at h; cases h
  rw [if_neg h1] at h
  by_cases h2 : l.any (fun n => !inb n 0 100000) = true ∨ inb f 0 100000 = false ∨ inb u 0 100000 = false
  · rw [if_pos h2] at h; cases h
  rw [if_neg h2] at h
  by_cases h3 : ndec l = false ∨ dups l = true ∨ u < f
  · rw [if_pos h3] at h; cases h
  rw [if_neg h3] at h; exact ⟨by omega, incr_of (by cases e : ndec l; exact absurd (.inl e) h3; rfl) (by cases e : dups l; rfl; exact absurd (.inr (.inl e)) h3), by omega, h⟩
def sumLen (o : List (List Int)) : Nat := (o.map List.length).sum
theorem sum_set : ∀ {o : List (List Int)} {n : Nat} {x : Int}, n < o.length → sumLen (o.set n (o.getD n [] ++ [x])) = sumLen o + 1
  | [], n, x, h => by cases h
  | a :: o, 0, x, _ => by simp [sumLen]; omega
  | a :: o, n + 1, x, h => by
    have := sum_set (o := o) (n := n) (x := x) (by simpa using h)
    simp only [sumLen, List.getD_cons_succ, List.set_cons_succ, List.map_cons, List.sum_cons] at this ⊢
    omega
theorem sum_add {i : Nat} : ∀ {p : List Int} {o : List (List Int)}, (∀ x ∈ p, x.toNat < o.length) → sumLen (addPlan o i p) = sumLen o + p.length
  | [], o, _ => rfl
  | x :: p, o, h => by
    have h0 := h x (by simp); have := sum_add (i := i) (p := p) (o := o.set x.toNat (o.getD x.toNat [] ++ [(i : Int)])) (fun y hy => by rw [List.length_set]; exact h y (by simp [hy])); rw [sum_set h0] at this
    show sumLen (addPlan _ i p) = _
    rw [this]
    simp only [List.length_cons]
    omega
theorem add_len {i : Nat} : ∀ {p : List Int} {o : List (List Int)}, (addPlan o i p).length = o.length
  | [], o => rfl
  | x :: p, o => by
    show (addPlan _ i p).length = _
    rw [add_len, List.length_set]
theorem repl_iff {ns : List Int} {ws : List Bool} {t : Int} : ∀ {n : Nat}, replUp ns ws t n = true ↔ ∃ i, i < n ∧ ws.getD i false = true ∧ ns.getD i 0 = t
  | 0 => by simp [replUp]
  | n + 1 => by
    rw [repl_succ, Bool.or_eq_true, repl_iff (n := n), Bool.and_eq_true, decide_eq_true_eq]
    constructor
    · rintro (⟨i, h1, h2⟩ | ⟨h1, h2⟩)
      · exact ⟨i, by omega, h2⟩
      · exact ⟨n, by omega, h2, h1⟩
    · rintro ⟨i, h1, h2, h3⟩
      rcases Nat.lt_or_ge i n with h | h
      · exact .inl ⟨i, h, h2, h3⟩
      · have e : i = n := by omega
        subst e; exact .inr ⟨h3, h2⟩
end

section
open Go.RowKit


open Go.ChangeShapes Go.WideShapes Go.ChangeAt Go.RowKit Go.Deep
section
variable {H : Type} {enc : TypeId × Value → H} {w : World} {spare : Nat → Bool} {n : Nat}
set_option maxRecDepth 100000 in
theorem open_ints {base : Nat} {v : Value} {d : DataW H} {p : List MemPlace} (hv : Value.okWide Try.prog w .any base 47 v) (h : DataW.Trod enc Try.prog w 0 spare true 47 v d p) (hlt : ∀ x ∈ p, x.block < w.heap.size) :
    ∃ (l : List Int) (a : Option Addr) (c : Nat), v = .slice a l.length c ∧ RdInts w a l ∧ l.length ≤ 9223372036854775807 ∧ True := by
  obtain ⟨a0, len, cap, rfl⟩ := okWide_slice Try.underlying47 hv; obtain ⟨fuel, hf0⟩ := h; obtain ⟨a, c, l, hj, rj, nj, _⟩ := open_rows (f := int1) (m := 1) (ok := fun _ : Int => True) Try.underlying47 (by kernel_rfl) (fun n cs' z _ hz => by obtain ⟨k, hk, _⟩ := DataW.trod_int Try.underlying3 hz; exact ⟨k, hk, trivial⟩) (by decide) hf0 (fun q hq => hlt q hq)
  simp [Value.cells] at hj
  obtain ⟨rfl, rfl, rfl⟩ := hj; unfold maxLen at nj; exact ⟨l, a0, cap, rfl, rj, by omega, trivial⟩
end
theorem info_bool : (Try.prog.info? 4).map (fun i => (i.zero, i.size, i.bytes)) = some (some (.bool false), 1, 1) := by kernel_rfl
theorem bool_one (x : Bool) : ∀ u ∈ boolc x, u.oneCell' = true := by intro u hu; simp [boolc] at hu; subst hu; rfl
end
end

section
theorem rack_zero {f : Int} {rack : List Vl} (h : rackErr f rack = 0) : ∀ x ∈ rack, askErr f x = 0 := by
  intro x hx
  unfold rackErr at h
  cases hf : rack.find? (fun x => askErr f x != 0) with
  | none => have := List.find?_eq_none.1 hf x hx; simpa using this
  | some y => rw [hf] at h; have := List.find?_some hf; simp at this h; exact absurd h this
theorem add_mem {i : Nat} {m : Int} {n : Nat} : ∀ {p : List Int} {o : List (List Int)}, (∀ x ∈ p, 0 ≤ x ∧ x.toNat < o.length) → (m ∈ (addPlan o i p).getD n [] ↔ m ∈ o.getD n [] ∨ (m = i ∧ (n : Int) ∈ p))
  | [], o, _ => by simp [addPlan]
  | x :: p, o, h => by
    show m ∈ (addPlan (o.set x.toNat (o.getD x.toNat [] ++ [(i : Int)])) i p).getD n [] ↔ _
    rw [add_mem (fun y hy => by rw [List.length_set]; exact h y (by simp [hy]))]
    obtain ⟨h0, h1⟩ := h x (by simp)
    by_cases e : x.toNat = n
    · have e1 : (o.set x.toNat (o.getD x.toNat [] ++ [(i : Int)])).getD n [] = o.getD n [] ++ [(i : Int)] := by
        subst e
        rw [List.getD_eq_getElem?_getD, List.getElem?_set_self h1]; rfl
      have ex : (n : Int) = x := by omega
      rw [e1, List.mem_append, List.mem_singleton, List.mem_cons]
      constructor
      · rintro ((h2 | h2) | ⟨h2, h3⟩)
        · exact .inl h2
        · exact .inr ⟨h2, .inl ex⟩
        · exact .inr ⟨h2, .inr h3⟩
      · rintro (h2 | ⟨h2, _⟩)
        · exact .inl (.inl h2)
        · exact .inl (.inr h2)
    · have e1 : (o.set x.toNat (o.getD x.toNat [] ++ [(i : Int)])).getD n [] = o.getD n [] := by
        rw [List.getD_eq_getElem?_getD, List.getElem?_set_ne e, ← List.getD_eq_getElem?_getD]
      have ex : ¬ (n : Int) = x := by omega
      rw [e1, List.mem_cons]
      constructor
      · rintro (h2 | ⟨h2, h3⟩)
        · exact .inl h2
        · exact .inr ⟨h2, .inr h3⟩
      · rintro (h2 | ⟨h2, h3 | h3⟩)
        · exact .inl h2
        · exact absurd h3 ex
        · exact .inr ⟨h2, h3⟩
theorem repGo_mem {l : List Int} {f u : Int} : ∀ {t : List Vl} {i : Nat} {o o' : List (List Int)}, repGo l f u t i o = some o' → o.length = l.length →
    o'.length = l.length ∧ (∀ q (h : q < t.length), ∃ p, planR t[q].k l (vCan f t[q]) f u = some p) ∧
    ∀ m n : Nat, (m : Int) ∈ o'.getD n [] ↔ (m : Int) ∈ o.getD n [] ∨ ∃ q, ∃ h : q < t.length, m = i + q ∧ ∃ p, planR t[q].k l (vCan f t[q]) f u = some p ∧ (n : Int) ∈ p
  | [], i, o, o', h, hl => by
    cases h
    exact ⟨hl, fun q hq => by simp at hq, fun m n => ⟨.inl, fun h => h.elim id (fun ⟨q, hq, _⟩ => by simp at hq)⟩⟩
  | x :: t, i, o, o', h, hl => by
    have h' : (match planR x.k l (vCan f x) f u with | none => none | some p => repGo l f u t (i + 1) (addPlan o i p)) = some o' := h
    cases hp : planR x.k l (vCan f x) f u with
    | none => rw [hp] at h'; cases h'
    | some p =>
      rw [hp] at h'
      have hin := plan_in _ hp
      have hp2 : ∀ y ∈ p, 0 ≤ y ∧ y.toNat < o.length := fun y hy => by have := hin y hy; omega
      obtain ⟨a1, a2, a3⟩ := repGo_mem (t := t) h' (by rw [add_len]; exact hl)
      refine ⟨a1, fun q hq => ?_, fun m n => ?_⟩
      · cases q with
        | zero => exact ⟨p, hp⟩
        | succ q => exact a2 q (by simpa using hq)
      · rw [a3 m n, add_mem hp2]
        constructor
        · rintro ((h1 | ⟨h1, h2⟩) | ⟨q, hq, h1, h2⟩)
          · exact .inl h1
          · exact .inr ⟨0, by simp, by omega, p, hp, h2⟩
          · exact .inr ⟨q + 1, by simpa using hq, by omega, h2⟩
        · rintro (h1 | ⟨q, hq, h1, h2⟩)
          · exact .inl (.inl h1)
          · cases q with
            | zero =>
              obtain ⟨p2, h3, h4⟩ := h2
              have : p2 = p := by have h5 : planR x.k l (vCan f x) f u = some p2 := h3; rw [hp] at h5; cases h5; rfl
              subst this
              exact .inl (.inr ⟨by omega, h4⟩)
            | succ q => exact .inr ⟨q, by simpa using hq, by omega, h2⟩
/-- what a plan says of each valve of a rack -/
theorem repl_ok {rack : List Vl} {l : List Int} {f u : Int} (h : (repRes rack l f u).2 = 0) :
    l.length ≤ 20 ∧ rack.length ≤ 12 ∧ Incr l ∧ f ≤ u ∧ (repRes rack l f u).1.length = l.length ∧
    ∀ i (hi : i < rack.length), askErr f rack[i] = 0 ∧ ∃ p, planR rack[i].k l (vCan f rack[i]) f u = some p ∧ ∀ n : Nat, ((i : Int) ∈ (repRes rack l f u).1.getD n [] ↔ (n : Int) ∈ p) := by
  have hz : repErr rack l f u = 0 := by
    by_cases e : repErr rack l f u = 0
    · exact e
    · exfalso
      have h2 : (repRes rack l f u).2 = repErr rack l f u := by unfold repRes; rw [if_pos e]
      exact e (h2.symm.trans h)
  obtain ⟨h1, h2, h3, h4⟩ := rep_zero hz
  have h5 : rack.length ≤ 12 := by
    unfold repErr at hz
    by_cases e : 12 < rack.length ∨ 20 < l.length
    · rw [if_pos e] at hz; cases hz
    · omega
  cases ho : repOut rack l f u with
  | none =>
    exfalso
    have : repRes rack l f u = ([], 9) := by unfold repRes; rw [if_neg (by rw [hz]; decide), ho]
    rw [this] at h; cases h
  | some o =>
    have hr : repRes rack l f u = (o, 0) := by unfold repRes; rw [if_neg (by rw [hz]; decide), ho]
    rw [hr]
    obtain ⟨a1, a2, a3⟩ := repGo_mem (show repGo l f u rack 0 (List.replicate l.length []) = some o from ho) (by rw [List.length_replicate])
    refine ⟨h1, h5, h2, h3, a1, fun i hi => ⟨rack_zero h4 _ (List.getElem_mem hi), ?_⟩⟩
    obtain ⟨p, hp⟩ := a2 i hi
    refine ⟨p, hp, fun n => ?_⟩
    show (i : Int) ∈ o.getD n [] ↔ _
    rw [a3 i n]
    have h0 : (List.replicate l.length ([] : List Int)).getD n [] = [] := by
      rw [List.getD_eq_getElem?_getD, List.getElem?_replicate]; split <;> rfl
    rw [h0]
    constructor
    · rintro (g | ⟨q, hq, g1, p2, g2, g3⟩)
      · cases g
      · have e : q = i := by omega
        subst e
        rw [hp] at g2; cases g2; exact g3
    · intro g
      exact .inr ⟨i, hi, by omega, p, hp, g⟩
theorem str_low {k : Kd} (hK : KOk k) (lw : List Int) : ∀ t : Nat, max 0 (k.new - t * k.wear.hi) ≤ strS k lw t
  | 0 => by have := hK.n0; show max 0 (k.new - ((0 : Nat) : Int) * k.wear.hi) ≤ k.new; simp; omega
  | t + 1 => by
    show _ ≤ max 0 (strS k lw t - k.wear.lo - wearAt lw (t + 1) % (k.wear.hi - k.wear.lo + 1))
    have ih := str_low hK lw t
    have h0 := hK.w0
    have h1 := hK.w1
    have e : ((t + 1 : Nat) : Int) * k.wear.hi = t * k.wear.hi + k.wear.hi := by rw [Int.natCast_add, Int.add_mul]; simp
    have h3 := Int.emod_lt_of_pos (wearAt lw (t + 1)) (b := k.wear.hi - k.wear.lo + 1) (by omega)
    rw [e]
    omega
theorem path_nn {k : Kd} (hK : KOk k) (lw ns : List Int) (ws : List Bool) (f : Nat) {s0 : Int} (h0 : 0 ≤ s0) : ∀ d, 0 ≤ pathS k lw ns ws f s0 d
  | 0 => by have := hK.n0; unfold pathS; split <;> omega
  | d + 1 => by have := hK.n0; unfold pathS; split <;> omega
theorem repl_safe {k : Kd} {l p lw : List Int} {ws : List Bool} {f u : Nat} (hE : kdErr k = 0) (hi : Incr l) (hf : f ≤ 100000) (hfu : f ≤ u)
    (hp : planR k l (failsOf k (asked k [] f).1 f).earliest f u = some p) (hw : ∀ n : Nat, n < l.length → (ws.getD n false = true ↔ (n : Int) ∈ p)) : failB k lw l ws f u (strS k lw f) = false := by
  have hK := kok_of hE
  have hin := plan_in _ hp
  have hrep : ∀ t : Int, replUp l ws t l.length = true ↔ ∃ x ∈ p, l.getD x.toNat 0 = t := by
    intro t
    rw [repl_iff]
    constructor
    · rintro ⟨i, h1, h2, h3⟩; exact ⟨(i : Int), (hw i h1).1 h2, by rw [Int.toNat_natCast]; exact h3⟩
    · rintro ⟨x, hx, h3⟩
      obtain ⟨x1, x2, _⟩ := hin x hx
      exact ⟨x.toNat, by omega, (hw _ (by omega)).2 (by rw [Int.toNat_of_nonneg (by omega)]; exact hx), h3⟩
  have ha := asked_new hE hf
  have hs0 := (str_bd hK lw f).1
  have hsucc : ∀ t, f ≤ t → pathS k lw l ws f (strS k lw f) (t + 1 - f) = if replUp l ws ((t + 1 : Nat) : Int) l.length then k.new else max 0 (pathS k lw l ws f (strS k lw f) (t - f) - k.wear.lo - wearAt lw (t + 1) % (k.wear.hi - k.wear.lo + 1)) := by
    intro t ht
    obtain ⟨d, rfl⟩ : ∃ d, t = f + d := ⟨t - f, by omega⟩
    rw [show f + d + 1 - f = d + 1 by omega, show f + d - f = d by omega]
    show (if replUp l _ ((f + (d + 1) : Nat) : Int) l.length then _ else max 0 (_ - k.wear.lo - wearAt lw (f + (d + 1)) % (k.wear.hi - k.wear.lo + 1))) = _
    rw [show f + (d + 1) = f + d + 1 by omega]
  have hw0 := hK.w0
  have hw1 := hK.w1
  have hall := plan_all (k := k) (l := l) hK hi (F := fun t => pathS k lw l ws f (strS k lw f) (t - f)) (fun t => path_nn hK lw l ws f hs0 _) (b := f) (U := u) hp
    (fun hex => by
      show pathS _ _ _ _ _ _ (f - f) = _
      rw [Nat.sub_self]
      show (if replUp l _ (f : Int) l.length then _ else _) = _
      rw [if_pos ((hrep f).2 hex)])
    (fun hno => by
      show _ ≤ pathS _ _ _ _ _ _ (f - f)
      rw [Nat.sub_self, ha]
      show max 0 (k.new - f * k.wear.hi) ≤ (if replUp l _ (f : Int) l.length then _ else _)
      rw [if_neg (fun h => hno ((hrep f).1 h))]
      exact str_low hK lw f)
    ⟨fun t h1 h2 hex => by
      show pathS _ _ _ _ _ _ (t + 1 - f) = _
      rw [hsucc t h1, if_pos ((hrep _).2 hex)],
     fun t h1 h2 hno => by
      show _ ≤ pathS _ _ _ _ _ _ (t + 1 - f)
      rw [hsucc t h1, if_neg (fun h => hno ((hrep _).1 h))]
      have h3 := Int.emod_lt_of_pos (wearAt lw (t + 1)) (b := k.wear.hi - k.wear.lo + 1) (by omega)
      show max 0 (pathS k lw l ws f (strS k lw f) (t - f) - k.wear.hi) ≤ _
      omega⟩
  exact fail_no (fun e he => by have := hall (f + e) (by omega) (by omega); rw [show f + e - f = e by omega] at this; exact this)
end

section
open Go.RowKit

section
variable {P : Program} (w : World)
theorem run_append_atw (base : Nat) (t ty e : TypeId) (i : TypeInfo) (z : Value) (size bytes : Nat) (ht : P.underlying t = some (.slice e)) (hi : P.info? e = some i) (hz : i.zero = some z)
    (hsize : i.size = size) (hby : i.bytes = bytes) (hzs : z.cells.size = size) (hsz : 0 < size) (v : Value) (n : Nat) (xs : List Value) (hown : w.ownsRow base e size v n xs)
    (a : Addr) (m c : Nat) (news : List Value) (hl : news.length = m * size) (hnews : ∀ j u, news[j]? = some u → w.cell? (a.add j) = some u) (h1 : ∀ u ∈ news, u.oneCell' = true)
    (h63 : n + m ≤ maxLen) (hbytes : ((n + m) + (n + m) / 4 + 192) * bytes ≤ 281474976710656) (hbase : base ≤ w.heap.size) :
    ∃ v' w', (Builtin.append_ #[t, t] ty #[v, .slice (some a) m c]).run P w = .ok v' w' ∧ w'.ownsRow base e size v' (n + m) (xs ++ news) ∧ w.grownBy w' v.ownBlock ∧ (v'.ownBlock = v.ownBlock ∨ v'.ownBlock = some w.heap.size) := by
  obtain ⟨v', w', hr, h2, h3, _⟩ := run_append_own_wide (P := P) w base t ty e i z size bytes ht hi hz hsize hby hzs hsz v n xs hown a m c news hl hnews h1 h63 hbytes hbase
  refine ⟨v', w', hr, h2, h3, ?_⟩
  subst hsize
  subst hby
  have hsmall : n + m ≤ 9223372036854775807 := by simp only [maxLen] at h63; omega
  rcases hown.2 with ⟨rfl, rfl⟩ | ⟨g, cap, cur, rfl, hbg, hg, hnc, hcm, hcs, htake⟩
  · by_cases hm : m = 0
    · subst hm
      have hn : news = [] := List.eq_nil_of_length_eq_zero (by simpa using hl)
      subst hn
      have : (Builtin.append_ #[t, t] ty #[.slice none 0 0, .slice (some a) 0 c]).run P w = .ok (.slice none 0 0) w := by
        simp [Builtin.append_, run_underlying ht, sizeOf, typeInfo, hi, Builtin.lenOf, Builtin.firstCells, loadCells, loadCellsFrom]
      rw [this] at hr
      cases hr
      exact .inl rfl
    · have hx : xs = [] := List.eq_nil_of_length_eq_zero (by simpa using hown.1)
      have h := run_append_nil (P := P) w t ty e i z ht hi hz a m c news hl hnews (by omega) (by omega) (by have hb := hbytes; simp only [Nat.zero_add] at hb; exact Nat.le_trans (Nat.mul_le_mul_right _ (by omega)) hb)
      rw [h] at hr
      cases hr
      exact .inr rfl
  · by_cases hroom : n + m ≤ cap
    · obtain ⟨w2, h, _, _⟩ := run_append_fits (P := P) w base t ty e i i.size ht hi rfl g n cap xs hown a m c news hl hnews h1 hroom
      rw [h] at hr
      cases hr
      exact .inl rfl
    · have holds : ∀ j u, xs[j]? = some u → w.cell? ((⟨g, 0, none⟩ : Addr).add j) = some u := hown.cells (g := g) rfl
      have h := run_append_grow (P := P) w t ty e i z ht hi hz ⟨g, 0, none⟩ n cap xs hown.1 holds a m c news hl hnews (by omega) (by omega) (growslice_fits_wide (by omega) hbytes)
      rw [h] at hr
      cases hr
      exact .inr rfl
end

section
variable {P : Program} {o : Oper} {n d : Nat} {s : Nat → Value} {w : World} {K' : Value → World → Prop} {α : Type} {f : α → List Value} {m : Nat}
/-- append(v, l...): v the call's own -/
theorem opF_appw (hd : o.dst = some d) (hn : d < n) (x y : Operand) (t : TypeId) (ho : o.op = .call { callee := .builtin .append, args := #[x, y], argTypes := #[t, t] })
    (e : TypeId) (i : TypeInfo) (z : Value) (bytes : Nat) (ht : P.underlying t = some (.slice e)) (hi : P.info? e = some i) (hz : i.zero = some z) (hsize : i.size = m) (hby : i.bytes = bytes) (hzs : z.cells.size = m) (hsz : 0 < m)
    (hf : ∀ x, (f x).length = m) (hone : ∀ x, ∀ u ∈ f x, u.oneCell' = true) (base : Nat) (v : Value) (l l2 : List α) (a : Option Addr) (c : Nat) (hx : evF n s x = v) (hy : evF n s y = .slice a l2.length c) (hown : Own f m e base w v l) (hrd : Rd f m w a l2)
    (h63 : l.length + l2.length ≤ maxLen) (hbytes : ((l.length + l2.length) + (l.length + l2.length) / 4 + 192) * bytes ≤ 281474976710656) (hbase : base ≤ w.heap.size)
    (h : ∀ v' w', Own f m e base w' v' (l ++ l2) → w.grownBy w' v.ownBlock → (v'.ownBlock = v.ownBlock ∨ v'.ownBlock = some w.heap.size) → K' v' w') : opF P o n s w K' := by
  have hfl : ∀ l : List α, (l.flatMap f).length = l.length * m := by
    intro l
    induction l with
    | nil => simp
    | cons x l ih => simp only [List.flatMap_cons, List.length_append, hf, ih, List.length_cons, Nat.add_mul]; omega
  have fin : ∀ v' w', w'.ownsRow base e m v' (l.length + l2.length) (l.flatMap f ++ l2.flatMap f) → Own f m e base w' v' (l ++ l2) := by
    intro v' w' h2
    unfold Own
    rw [List.length_append, List.flatMap_append]; exact h2
  have key : ∃ v' w', (Builtin.append_ #[t, t] o.type #[v, .slice a l2.length c]).run P w = .ok v' w' ∧ Own f m e base w' v' (l ++ l2) ∧ w.grownBy w' v.ownBlock ∧ (v'.ownBlock = v.ownBlock ∨ v'.ownBlock = some w.heap.size) := by
    rcases hrd with rfl | ⟨b, off, rfl, hlt, hc⟩
    · cases a with
      | none =>
        refine ⟨v, w, run_append_none w base t o.type e i m ht hi v l.length (l.flatMap f) hown c, by simpa using hown, ⟨rfl, rfl, rfl, Nat.le_refl _, fun _ _ _ => rfl⟩, .inl rfl⟩
      | some ad =>
        obtain ⟨v', w', hr, h2, h3, h4⟩ := run_append_atw (P := P) w base t o.type e i z m bytes ht hi hz hsize hby hzs hsz v l.length (l.flatMap f) hown ad 0 c [] (by simp) (fun j u hj => by simp at hj) (fun u hu => by simp at hu) (by simpa using h63) (by simpa using hbytes) hbase
        exact ⟨v', w', by simpa using hr, fin _ _ (by simpa using h2), h3, h4⟩
    · obtain ⟨v', w', hr, h2, h3, h4⟩ := run_append_atw (P := P) w base t o.type e i z m bytes ht hi hz hsize hby hzs hsz v l.length (l.flatMap f) hown ⟨b, off, none⟩ l2.length c (l2.flatMap f) (hfl l2) (Rd.flatAt hf hc)
        (fun u hu => by obtain ⟨x, _, hux⟩ := List.mem_flatMap.1 hu; exact hone x u hux) h63 hbytes hbase
      exact ⟨v', w', hr, fin _ _ h2, h3, h4⟩
  obtain ⟨v', w', hr, h2, h3, h4⟩ := key
  refine opF_of_wp hd hn (fun K Q hK => ?_)
  unfold Oper.wp execOp
  simp only [ho, resolve, invoke, builtin, Sem.run_bind, Sem.run_pure, Result.andThen_ok, List.map_toArray, List.map_cons, List.map_nil, mkA_eval, hx, hy, hr]
  exact hK _ _ (h v' w' h2 h3 h4)

end
end


end Go.Proofs.Ytndcmmghgljinaa
