/- General lemmas: rounds of two values; blocks that are put. -/
import Derived.Test.YtleknidlgmmgbaaGreattaW11
import Derived.Test.YtleknidlgmmgbaaGreattaW9
set_option linter.all false
namespace Go.Proofs.YtleknidlgmmgbaaGreat

section
open Go.RowKit


/-- the cells of a machine at work: its state, and the order -/
abbrev mC (sa : Option Addr) (ns sc : Nat) (ta : Option Addr) (nt tc : Nat) (tk : Int) (pa : Option Addr) (np pc : Nat) (tm p dn wy op f t nx : Int) : List Value := [.slice sa ns sc, .slice ta nt tc, .int .i64 tk, .slice pa np pc, .int .i64 tm, .int .i64 p, .int .i64 dn, .int .i64 wy, .int .i64 op, .int .i64 f, .int .i64 t, .int .i64 nx]
/-- a machine at work: its store and what it printed are its own, behind N -/
def OM (N : Nat) (av : List Nat) (w : World) (V : Nat) (s : St4) (o : Ord) : Prop :=
  ∃ G sc ta tc pa pc, N ≤ V ∧ N ≤ G ∧ V ≠ G ∧ Cells w V (mC (some ⟨G, 0, none⟩) s.store.length sc ta s.tape.length tc s.taken pa s.printed.length pc s.time s.pc s.done s.why o.op o.fr o.tt o.nx) ∧ Cells w G (s.store.flatMap int1) ∧ Own int1 1 3 N w (.slice pa s.printed.length pc) s.printed ∧
    (Value.slice pa s.printed.length pc).ownBlock ≠ some V ∧ (Value.slice pa s.printed.length pc).ownBlock ≠ some G ∧ RdInts w ta s.tape ∧ (s.tape ≠ [] → ∀ b, ta = some b → N ≤ b.block ∧ b.block ≠ V ∧ b.block ≠ G ∧ (Value.slice pa s.printed.length pc).ownBlock ≠ some b.block) ∧
    ∀ k ∈ av, k ≠ V ∧ k ≠ G ∧ (Value.slice pa s.printed.length pc).ownBlock ≠ some k ∧ (s.tape ≠ [] → ∀ b, ta = some b → b.block ≠ k)
def openErr (s : St4) (most : Int) : Int := if (chk4 s).2.2 ≠ 0 then (chk4 s).2.2 else if inI most 0 5000 = false then 7 else 0
theorem open_zero {s : St4} {most : Int} : openErr s most = 0 ↔ OkI s ∧ 0 ≤ most ∧ most ≤ 5000 := by
  unfold openErr; rw [← ok_iff, ← inI_iff]
  by_cases h : (chk4 s).2.2 = 0
  · rw [if_neg (by simp [h])]; simp [h]
  · rw [if_pos h]; simp [h]
theorem OM.old {N : Nat} {av : List Nat} {w w' : World} {V : Nat} {s : St4} {o : Ord} (h : OM N av w V s o) {Bs : List Nat} (ho : OldB Bs w w') (hb : ∀ b ∈ Bs, b ∈ av) : OM N av w' V s o := by
  obtain ⟨G, sc, ta, tc, pa, pc, h1, h2, h3, h4, h5, h6, h7, h8, h9, h10, h11⟩ := h; exact ⟨G, sc, ta, tc, pa, pc, h1, h2, h3, h4.oldB ho (fun hm => (h11 _ (hb _ hm)).1 rfl), h5.oldB ho (fun hm => (h11 _ (hb _ hm)).2.1 rfl), Own.oldB h6 ho (fun g hg hm => (h11 _ (hb _ hm)).2.2.1 hg), h7, h8, Rd.oldN h9 ho (fun hl b hb' hm => (h11 _ (hb _ hm)).2.2.2 hl b hb' rfl), h10, h11⟩
theorem OM.at {N : Nat} {av : List Nat} {w w' : World} {V : Nat} {s : St4} {o : Ord} (h : OM N av w V s o) (hb : Below w.heap.size w w') : OM N av w' V s o := h.old (OldB.nil (Bs := []) hb) (by simp)
theorem OM.avoid {N : Nat} {av : List Nat} {w : World} {V : Nat} {s : St4} {o : Ord} (h : OM N av w V s o) {k : Nat} (hk : w.heap.size ≤ k) : OM N (k :: av) w V s o := by
  obtain ⟨G, sc, ta, tc, pa, pc, h1, h2, h3, h4, h5, h6, h7, h8, h9, h10, h11⟩ := h; refine ⟨G, sc, ta, tc, pa, pc, h1, h2, h3, h4, h5, h6, h7, h8, h9, h10, fun j hj => ?_⟩
  rcases List.mem_cons.1 hj with e | e
  · subst e
    have a1 := h4.1; have a2 := h5.1; exact ⟨by omega, by omega, fun e => by have := (World.ownsRow.lt h6 _ e).2; omega, fun hl b hb e => by have := Rd.lt h9 hl b hb; omega⟩
  · exact h11 j e
theorem OM.less {N : Nat} {av av' : List Nat} {w : World} {V : Nat} {s : St4} {o : Ord} (h : OM N av w V s o) (ha : ∀ k ∈ av', k ∈ av) : OM N av' w V s o := by
  obtain ⟨G, sc, ta, tc, pa, pc, h1, h2, h3, h4, h5, h6, h7, h8, h9, h10, h11⟩ := h; exact ⟨G, sc, ta, tc, pa, pc, h1, h2, h3, h4, h5, h6, h7, h8, h9, h10, fun j hj => h11 j (ha j hj)⟩
theorem OM.cells {N : Nat} {av : List Nat} {w : World} {V : Nat} {s : St4} {o : Ord} (h : OM N av w V s o) : N ≤ V ∧ V < w.heap.size ∧ w.cell? ⟨V, 4, none⟩ = some (.int .i64 s.time) ∧ w.cell? ⟨V, 5, none⟩ = some (.int .i64 s.pc) ∧ w.cell? ⟨V, 7, none⟩ = some (.int .i64 s.why) ∧ w.cell? ⟨V, 8, none⟩ = some (.int .i64 o.op) ∧ w.cell? ⟨V, 9, none⟩ = some (.int .i64 o.fr) ∧ w.cell? ⟨V, 10, none⟩ = some (.int .i64 o.tt) ∧ w.cell? ⟨V, 11, none⟩ = some (.int .i64 o.nx) := by
  obtain ⟨G, sc, ta, tc, pa, pc, h1, h2, h3, h4, _⟩ := h; exact ⟨h1, h4.1, h4.cell 4 rfl, h4.cell 5 rfl, h4.cell 7 rfl, h4.cell 8 rfl, h4.cell 9 rfl, h4.cell 10 rfl, h4.cell 11 rfl⟩
set_option maxRecDepth 100000 in
set_option maxHeartbeats 1000000 in
theorem oopen_bad (s : St4) (A : SA) (most : Int) (w : World) (hR : RdSt w s A) (hL : LenI s) (he : openErr s most ≠ 0) :
    Calls Tryz.prog 71 #[.agg #[.slice A.sa s.store.length A.sc, .slice A.ta s.tape.length A.tc, .int .i64 s.taken, .slice A.pa s.printed.length A.pc, .int .i64 s.time, .int .i64 s.pc, .int .i64 s.done, .int .i64 s.why], .int .i64 most] w (fun e w' => e = .returned (.tuple #[.pointer none, .int .i64 (openErr s most)]) ∧ Below w.heap.size w w') := by
 have HR := hid hR; have HL := hid hL; have He := hid he; clear hR hL he
 refine enter_F Tryz.func71 rfl Tryz.ntmps71 (by simp) ?_
 intro s0 hs; have sl0 : s0 0 = .agg #[.slice A.sa s.store.length A.sc, .slice A.ta s.tape.length A.tc, .int .i64 s.taken, .slice A.pa s.printed.length A.pc, .int .i64 s.time, .int .i64 s.pc, .int .i64 s.done, .int .i64 s.why] := hs 0 (by simp); have sl1 : s0 1 = .int .i64 most := hs 1 (by simp); clear hs; have HB := hid (OldB.refl [] w)
 repeat ((fail_if_success refine stp ?_); with_reducible go_step)
 refine region_F ?_; refine pa (fun w1 B2 hB kb2' hb2 => ?_); have gb2 := HB.out.gB hB; have eb2 := eB hB; clear hB; replace HB := hid (HB.out.below hb2); clear hb2; have kb2 := kb2'; clear kb2'; have qb2 := kb2.1; refine pl ?_; refine pl ?_; refine listF_abs (fun s3 z' => ?_); replace sl1 := gs 1 z' sl1; have sl2 := gu 2 z'; clear z' sl0; refine listF_nil ?_
 repeat ((fail_if_success refine stp ?_); with_reducible go_step)
 refine region_F ?_; have cb2_0 := kb2.cell 0 rfl; have cb2_1 := kb2.cell 1 rfl; have cb2_2 := kb2.cell 2 rfl; have cb2_3 := kb2.cell 3 rfl; have cb2_4 := kb2.cell 4 rfl; have cb2_5 := kb2.cell 5 rfl; have cb2_6 := kb2.cell 6 rfl; have cb2_7 := kb2.cell 7 rfl; refine pl ?_; refine listF_step rfl (fun K' hK => ?_); unfold opF; go_simp; refine (ocheck_any s A _ (HR.out.old HB.out) HL.out).mono ?_; rintro e w4 ⟨rfl, hb5⟩; refine ⟨_, rfl, hK _ _ ?_⟩; clear hK K'; clear cb2_0 cb2_1 cb2_2 cb2_3 cb2_4 cb2_5 cb2_6 cb2_7; clear qb2; replace kb2 := kb2.at hb5; replace HB := hid (HB.out.below hb5); clear hb5; have qb2 := kb2.1
 iterate 7 refine pl ?_
 refine listF_abs (fun s6 z' => ?_); replace sl1 := gs 1 z' sl1; replace sl2 := gs 2 z' sl2; have sl8 := gu 8 z'; clear z'; refine listF_nil ?_
 repeat ((fail_if_success refine stp ?_); with_reducible go_step)
 refine region_F ?_; refine pl ?_; refine pl ?_; refine listF_abs (fun s7 z' => ?_); replace sl1 := gs 1 z' sl1; replace sl2 := gs 2 z' sl2; replace sl8 := gs 8 z' sl8; have sl16 := gu 16 z'; clear z'; refine listF_nil ?_
 repeat ((fail_if_success refine stp ?_); with_reducible go_step)
 refine cond_E sl16 (by decide) ?_ ?_ <;> (clear sl16; intro h16 sl16)
 ·skip
  have Hr := hid (show openErr s most = (chk4 s).2.2 by unfold openErr; rw [if_pos (by simpa using h16)])
  repeat ((fail_if_success refine stp ?_); with_reducible go_step)
  refine region_F ?_
  iterate 3 refine pl ?_
  refine listF_abs (fun s8 z' => ?_); have sl4 := gu 4 z'; have sl5 := gu 5 z'; clear z' sl1 sl2 sl8 sl16; refine listF_nil ?_
  repeat ((fail_if_success refine stp ?_); with_reducible go_step)
  refine ret_F _ (res_tt Tryz.results71 ((getD_F (by decide)).trans sl4) ((getD_F (by decide)).trans sl5)) ?_; exact ⟨by rw [Hr.out], HB.out.toBelow⟩
 ·skip
  have Hc := hid (show ¬ (chk4 s).2.2 ≠ 0 by simpa using h16)
  repeat ((fail_if_success refine stp ?_); with_reducible go_step)
  refine region_F ?_; refine pl ?_; refine pas (fun w9 B19 hB kb19' hb10 => ?_); have gb19 := HB.out.gB hB; have ob2_b19 := oB qb2 hB; have eb19 := eB hB; clear hB; clear qb2; replace kb2 := kb2.at hb10; replace HB := hid (HB.out.below hb10); clear hb10; have qb2 := kb2.1; have kb19 := kb19'; clear kb19'; have qb19 := kb19.1; refine listF_step rfl (fun K' hK => ?_); unfold opF; go_simp; refine (oout_1 5000 most B19 1 _ kb19).mono ?_; rintro e w11 ⟨rfl, hb12⟩; refine ⟨_, rfl, hK _ _ ?_⟩; clear hK K'; clear qb2 qb19; replace kb2 := kb2.at hb12; replace kb19 := kb19.at hb12; replace HB := hid (HB.out.below hb12); clear hb12; have qb2 := kb2.1; have qb19 := kb19.1; refine listF_abs (fun s13 z' => ?_); replace sl2 := gs 2 z' sl2; have sl20 := gu 20 z'; clear z' sl1 sl8 sl16; refine listF_nil ?_
  repeat ((fail_if_success refine stp ?_); with_reducible go_step)
  refine cond_E sl20 (by decide) ?_ ?_ <;> (clear sl20; intro h20 sl20)
  ·skip
   have Hr := hid (show openErr s most = 7 by unfold openErr; rw [if_neg Hc.out, if_pos (by simpa using h20)])
   repeat ((fail_if_success refine stp ?_); with_reducible go_step)
   refine region_F ?_; refine pl ?_; refine pl ?_; refine listF_abs (fun s14 z' => ?_); have sl4 := gu 4 z'; have sl5 := gu 5 z'; clear z' sl2 sl20; refine listF_nil ?_
   repeat ((fail_if_success refine stp ?_); with_reducible go_step)
   refine ret_F _ (res_tt Tryz.results71 ((getD_F (by decide)).trans sl4) ((getD_F (by decide)).trans sl5)) ?_; exact ⟨by rw [Hr.out], HB.out.toBelow⟩
  ·skip
   exact absurd (show openErr s most = 0 by unfold openErr; rw [if_neg Hc.out, if_neg (by simpa using h20)]) He.out

set_option maxRecDepth 100000 in
set_option maxHeartbeats 8000000 in
theorem oopen_ok (s : St4) (A : SA) (most : Int) (w : World) (hR : RdSt w s A) (hO : OkI s) (hm : 0 ≤ most ∧ most ≤ 5000) :
    Calls Tryz.prog 71 #[.agg #[.slice A.sa s.store.length A.sc, .slice A.ta s.tape.length A.tc, .int .i64 s.taken, .slice A.pa s.printed.length A.pc, .int .i64 s.time, .int .i64 s.pc, .int .i64 s.done, .int .i64 s.why], .int .i64 most] w (fun e w' => ∃ V, e = .returned (.tuple #[.pointer (some ⟨V, 0, none⟩), .int .i64 0]) ∧ OM w.heap.size [] w' V s ⟨0, 0, 0, 0⟩ ∧ Below w.heap.size w w') := by
 have HR := hid hR; have HO := hid hO; clear hR hO; have Hc := hid (ok_iff.2 HO.out)
 have hl0 : s.store.length ≤ 1000 := by have := HO.out.l0; omega
 have hl1 : s.tape.length ≤ 1000 := by have := HO.out.l1; omega
 have hl2 : s.printed.length ≤ 1000 := by have := HO.out.l2; omega
 have HL := hid (show LenI s from ⟨by omega, by omega, by omega⟩)
 refine enter_F Tryz.func71 rfl Tryz.ntmps71 (by simp) ?_
 intro s0 hs; have sl0 : s0 0 = .agg #[.slice A.sa s.store.length A.sc, .slice A.ta s.tape.length A.tc, .int .i64 s.taken, .slice A.pa s.printed.length A.pc, .int .i64 s.time, .int .i64 s.pc, .int .i64 s.done, .int .i64 s.why] := hs 0 (by simp); have sl1 : s0 1 = .int .i64 most := hs 1 (by simp); clear hs; have HB := hid (OldB.refl [] w)
 repeat ((fail_if_success refine stp ?_); with_reducible go_step)
 refine region_F ?_; refine pa (fun w1 B2 hB kb2' hb2 => ?_); have gb2 := HB.out.gB hB; have eb2 := eB hB; clear hB; replace HB := hid (HB.out.below hb2); clear hb2; have kb2 := kb2'; clear kb2'; have qb2 := kb2.1; refine pl ?_; refine pl ?_; refine listF_abs (fun s3 z' => ?_); replace sl1 := gs 1 z' sl1; have sl2 := gu 2 z'; clear z' sl0; refine listF_nil ?_
 repeat ((fail_if_success refine stp ?_); with_reducible go_step)
 refine region_F ?_; have cb2_0 := kb2.cell 0 rfl; have cb2_1 := kb2.cell 1 rfl; have cb2_2 := kb2.cell 2 rfl; have cb2_3 := kb2.cell 3 rfl; have cb2_4 := kb2.cell 4 rfl; have cb2_5 := kb2.cell 5 rfl; have cb2_6 := kb2.cell 6 rfl; have cb2_7 := kb2.cell 7 rfl; refine pl ?_; refine listF_step rfl (fun K' hK => ?_); unfold opF; go_simp; refine (ocheck_any s A _ (HR.out.old HB.out) HL.out).mono ?_; rintro e w4 ⟨rfl, hb5⟩; rw [Hc.out]; refine ⟨_, rfl, hK _ _ ?_⟩; clear hK K'; clear cb2_0 cb2_1 cb2_2 cb2_3 cb2_4 cb2_5 cb2_6 cb2_7; clear qb2; replace kb2 := kb2.at hb5; replace HB := hid (HB.out.below hb5); clear hb5; have qb2 := kb2.1
 iterate 7 refine pl ?_
 refine listF_abs (fun s6 z' => ?_); replace sl1 := gs 1 z' sl1; replace sl2 := gs 2 z' sl2; have sl8 := gu 8 z'; clear z'; refine listF_nil ?_
 repeat ((fail_if_success refine stp ?_); with_reducible go_step)
 refine region_F ?_; refine pl ?_; refine pl ?_; refine listF_abs (fun s7 z' => ?_); replace sl1 := gs 1 z' sl1; replace sl2 := gs 2 z' sl2; replace sl8 := gs 8 z' sl8; have sl16 := gu 16 z'; clear z'; refine listF_nil ?_
 repeat ((fail_if_success refine stp ?_); with_reducible go_step)
 refine cond_f ?_
 repeat ((fail_if_success refine stp ?_); with_reducible go_step)
 refine region_F ?_; refine pl ?_; refine pas (fun w8 B19 hB kb19' hb9 => ?_); have gb19 := HB.out.gB hB; have ob2_b19 := oB qb2 hB; have eb19 := eB hB; clear hB; clear qb2; replace kb2 := kb2.at hb9; replace HB := hid (HB.out.below hb9); clear hb9; have qb2 := kb2.1; have kb19 := kb19'; clear kb19'; have qb19 := kb19.1; refine listF_step rfl (fun K' hK => ?_); unfold opF; go_simp; refine (oout_1 5000 most B19 1 _ kb19).mono ?_; rintro e w10 ⟨rfl, hb11⟩; rw [show (!inI most 0 5000) = false by rw [(inI_iff _ _ _).2 hm]; rfl]; refine ⟨_, rfl, hK _ _ ?_⟩; clear hK K'; clear qb2 qb19; replace kb2 := kb2.at hb11; replace kb19 := kb19.at hb11; replace HB := hid (HB.out.below hb11); clear hb11; have qb2 := kb2.1; have qb19 := kb19.1; refine listF_abs (fun s12 z' => ?_); replace sl2 := gs 2 z' sl2; have sl20 := gu 20 z'; clear z' sl1 sl8 sl16; refine listF_nil ?_
 repeat ((fail_if_success refine stp ?_); with_reducible go_step)
 refine cond_f ?_
 repeat ((fail_if_success refine stp ?_); with_reducible go_step)
 refine cut_any (fun sJ wJ => ∃ v23 v26 v29, OldB [B2] w10 wJ ∧ Cells wJ B2 [v23, v26, .int .i64 s.taken, v29, .int .i64 s.time, .int .i64 s.pc, .int .i64 s.done, .int .i64 s.why] ∧ Own int1 1 3 w10.heap.size wJ v23 s.store ∧ Own int1 1 3 w10.heap.size wJ v26 s.tape ∧ Own int1 1 3 w10.heap.size wJ v29 s.printed ∧ Apart v23 v26 ∧ Apart v23 v29 ∧ Apart v26 v29 ∧ sJ 2 = s12 2) ?_ ?_
 · refine regionI_F (fun (LJ : Nat → Bool) (sJ : Nat → Value) (wJ : World) => Cells wJ B2 [(bif LJ 10 then sJ 23 else Value.slice A.sa s.store.length A.sc), (bif LJ 12 then sJ 26 else Value.slice A.ta s.tape.length A.tc), .int .i64 s.taken, (bif LJ 14 then sJ 29 else Value.slice A.pa s.printed.length A.pc), .int .i64 s.time, .int .i64 s.pc, .int .i64 s.done, .int .i64 s.why] ∧ OldB [B2] w10 wJ ∧ sJ 2 = s12 2 ∧ sJ 20 = s12 20 ∧ (LJ 10 = true → LJ 2 = true) ∧ (LJ 12 = true → LJ 5 = true) ∧ (LJ 14 = true → LJ 8 = true) ∧ (LJ 10 = true → LJ 1 = true) ∧ (LJ 12 = true → LJ 4 = true) ∧ (LJ 14 = true → LJ 7 = true) ∧ (LJ 0 = true → sJ 21 = .pointer (some ⟨B2, 0, none⟩)) ∧ (LJ 1 = true → sJ 22 = Value.slice A.sa s.store.length A.sc) ∧ (LJ 3 = true → sJ 24 = .pointer (some ⟨B2, 1, none⟩)) ∧ (LJ 4 = true → sJ 25 = Value.slice A.ta s.tape.length A.tc) ∧ (LJ 6 = true → sJ 27 = .pointer (some ⟨B2, 3, none⟩)) ∧ (LJ 7 = true → sJ 28 = Value.slice A.pa s.printed.length A.pc) ∧ (LJ 9 = true → sJ 30 = .pointer (some ⟨B2, 0, none⟩)) ∧ (LJ 11 = true → sJ 31 = .pointer (some ⟨B2, 1, none⟩)) ∧ (LJ 13 = true → sJ 32 = .pointer (some ⟨B2, 3, none⟩)) ∧ (LJ 2 = true → Own int1 1 3 w10.heap.size wJ (sJ 23) s.store) ∧ (LJ 5 = true → Own int1 1 3 w10.heap.size wJ (sJ 26) s.tape) ∧ (LJ 8 = true → Own int1 1 3 w10.heap.size wJ (sJ 29) s.printed) ∧ (LJ 2 = true → LJ 5 = true → Apart (sJ 23) (sJ 26)) ∧ (LJ 2 = true → LJ 8 = true → Apart (sJ 23) (sJ 29)) ∧ (LJ 5 = true → LJ 8 = true → Apart (sJ 26) (sJ 29))) (by kernel_rfl) (by kernel_rfl) (by kernel_rfl) ?_ ?_ ⟨?_, ?_, ?_, ?_, ?_, ?_, ?_, ?_, ?_, ?_, ?_, ?_, ?_, ?_, ?_, trivial⟩
   · exact ⟨(by (try simp only [cond_false]); exact Cells.drew kb2), (OldB.drewN (OldB.refl _ _)), (by simp), (by simp), (by simp), (by simp), (by simp), (by simp), (by simp), (by simp), (by simp), (by simp), (by simp), (by simp), (by simp), (by simp), (by simp), (by simp), (by simp), (by simp), (by simp), (by simp), (by simp), (by simp), (by simp)⟩
   · rintro sJ wJ ⟨kB_b2, kO, hs2, hs20, kD10_2, kD12_5, kD14_8, kD10_1, kD12_4, kD14_7, hv0, hv1, hv3, hv4, hv6, hv7, hv9, hv11, hv13, kW2, kW5, kW8, kE2_5, kE2_8, kE5_8⟩
     (try simp only [show ∀ a b : Value, (bif true then a else b) = a from fun _ _ => rfl, Nat.reduceLT, decide_true, cond_true, List.length_cons, List.length_nil] at kB_b2)
     clear kD10_2; clear kD12_5; clear kD14_8; clear kD10_1; clear kD12_4; clear kD14_7; replace hv0 := hv0 (by simp); replace hv1 := hv1 (by simp); replace hv3 := hv3 (by simp); replace hv4 := hv4 (by simp); replace hv6 := hv6 (by simp); replace hv7 := hv7 (by simp); replace hv9 := hv9 (by simp); replace hv11 := hv11 (by simp); replace hv13 := hv13 (by simp); replace kW2 := kW2 (by simp); replace kW5 := kW5 (by simp); replace kW8 := kW8 (by simp); replace kE2_5 := kE2_5 (by simp) (by simp); replace kE2_8 := kE2_8 (by simp) (by simp); replace kE5_8 := kE5_8 (by simp) (by simp)
     have kX_b2 : Cells wJ B2 [sJ 23, sJ 26, .int .i64 s.taken, sJ 29, .int .i64 s.time, .int .i64 s.pc, .int .i64 s.done, .int .i64 s.why] := by first | exact kB_b2 | (simpa [] using kB_b2)
     exact ⟨rfl, _, rfl, sJ 23, sJ 26, sJ 29, kO, kX_b2, kW2, kW5, kW8, kE2_5, kE2_8, kE5_8, hs2⟩
   · rintro LJ sJ wJ hL hd ⟨kB_b2, kO, hs2, hs20, kD10_2, kD12_5, kD14_8, kD10_1, kD12_4, kD14_7, hv0, hv1, hv3, hv4, hv6, hv7, hv9, hv11, hv13, kW2, kW5, kW8, kE2_5, kE2_8, kE5_8⟩ K hK
     clear hd; rw [if_pos (by rfl)]; have sv2 := hs2.trans sl2; have sv20 := hs20.trans sl20; have ks_b2 := kB_b2.1; have kc_b2_0 := kB_b2.cell 0 rfl; have kc_b2_1 := kB_b2.cell 1 rfl; have kc_b2_2 := kB_b2.cell 2 rfl; have kc_b2_3 := kB_b2.cell 3 rfl; have kc_b2_4 := kB_b2.cell 4 rfl; have kc_b2_5 := kB_b2.cell 5 rfl; have kc_b2_6 := kB_b2.cell 6 rfl; have kc_b2_7 := kB_b2.cell 7 rfl; unfold opF; go_simp
     refine hK _ _ ⟨(by first | exact kB_b2 | simpa [upd, updS] using kB_b2), kO, ?_, ?_, ?_, ?_, ?_, ?_, ?_, ?_, ?_, ?_, ?_, ?_, ?_, ?_, ?_, ?_, ?_, ?_, ?_, ?_, ?_, ?_, ?_⟩ <;> first | assumption | exact fun _ => rfl | (simp [upd, updS]; done) | (simp [upd, updS]; assumption)
   · rintro LJ sJ wJ hL hd ⟨kB_b2, kO, hs2, hs20, kD10_2, kD12_5, kD14_8, kD10_1, kD12_4, kD14_7, hv0, hv1, hv3, hv4, hv6, hv7, hv9, hv11, hv13, kW2, kW5, kW8, kE2_5, kE2_8, kE5_8⟩ K hK
     have ga0 := hd ⟨0, .data⟩ (by simp) rfl; have gv0 := hv0 ga0; clear hd; rw [if_pos (by rfl)]
     have nd10 : LJ 10 = false := by cases hh : LJ 10 with | false => rfl | true => exact absurd (kD10_1 hh) (by rw [hL]; decide)
     have sv2 := hs2.trans sl2; have sv20 := hs20.trans sl20; have ks_b2 := kB_b2.1; have kc_b2_0 := kB_b2.cell 0 rfl; have kc_b2_1 := kB_b2.cell 1 rfl; have kc_b2_2 := kB_b2.cell 2 rfl; have kc_b2_3 := kB_b2.cell 3 rfl; have kc_b2_4 := kB_b2.cell 4 rfl; have kc_b2_5 := kB_b2.cell 5 rfl; have kc_b2_6 := kB_b2.cell 6 rfl; have kc_b2_7 := kB_b2.cell 7 rfl
     (try simp only [nd10, cond_false] at kc_b2_0 kc_b2_1 kc_b2_3)
     unfold opF; go_simp
     refine hK _ _ ⟨(by simpa [upd, updS, nd10] using kB_b2), kO, ?_, ?_, ?_, ?_, ?_, ?_, ?_, ?_, ?_, ?_, ?_, ?_, ?_, ?_, ?_, ?_, ?_, ?_, ?_, ?_, ?_, ?_, ?_⟩ <;> first | assumption | exact fun _ => rfl | (simp [upd, updS]; done) | (simp [upd, updS]; assumption)
   · rintro LJ sJ wJ hL hd ⟨kB_b2, kO, hs2, hs20, kD10_2, kD12_5, kD14_8, kD10_1, kD12_4, kD14_7, hv0, hv1, hv3, hv4, hv6, hv7, hv9, hv11, hv13, kW2, kW5, kW8, kE2_5, kE2_8, kE5_8⟩ K hK
     have ga1 := hd ⟨1, .data⟩ (by simp) rfl; have gv1 := hv1 ga1; clear hd; rw [if_pos (by rfl)]
     have nd10 : LJ 10 = false := by cases hh : LJ 10 with | false => rfl | true => exact absurd (kD10_2 hh) (by rw [hL]; decide)
     have sv2 := hs2.trans sl2; have sv20 := hs20.trans sl20; unfold opF; go_simp; refine (cloneInt_any A.sa A.sc s.store _ hl0 (Rd.oldB HR.out.st (HB.out.more kO (by simp; try omega)) (by simp))).mono ?_; rintro e wN ⟨vN, rfl, hO, hbN⟩; have hsN := hbN.size; have hsO := kO.size; have hOn := hO; replace hO := Own.base (base' := w10.heap.size) hO (by omega)
     refine ⟨_, rfl, hK _ _ ⟨(by have hz := Cells.at kB_b2 hbN; simpa [upd, updS, nd10] using hz), (OldB.below kO hbN), ?_, ?_, ?_, ?_, ?_, ?_, ?_, ?_, ?_, ?_, ?_, ?_, ?_, ?_, ?_, ?_, ?_, (fun _ => by simpa [updS] using hO), (fun h1 => by first | exact Own.at (kW5 h1) hbN | (have h1 := (by simpa [upd] using h1 : LJ 5 = true); simpa [updS] using Own.at (kW5 h1) hbN)), (fun h1 => by first | exact Own.at (kW8 h1) hbN | (have h1 := (by simpa [upd] using h1 : LJ 8 = true); simpa [updS] using Own.at (kW8 h1) hbN)), (fun h1 h2 => by have h2 := (by simpa [upd] using h2 : LJ 5 = true); have hz : Apart (sJ 26) vN := (fun g g1 g2 => by have a1 := (World.ownsRow.lt (kW5 h2) g g1).2; have a2 := (World.ownsRow.lt hOn g g2).1; omega); simpa [updS] using hz.symm), (fun h1 h2 => by have h2 := (by simpa [upd] using h2 : LJ 8 = true); have hz : Apart (sJ 29) vN := (fun g g1 g2 => by have a1 := (World.ownsRow.lt (kW8 h2) g g1).2; have a2 := (World.ownsRow.lt hOn g g2).1; omega); simpa [updS] using hz.symm), (fun h1 h2 => by first | exact kE5_8 h1 h2 | (have h1 := (by simpa [upd] using h1 : LJ 5 = true); have h2 := (by simpa [upd] using h2 : LJ 8 = true); simpa [updS] using kE5_8 h1 h2))⟩⟩ <;> first | assumption | exact fun _ => rfl | (simp [upd, updS]; done) | (simp [upd, updS]; assumption)
   · rintro LJ sJ wJ hL hd ⟨kB_b2, kO, hs2, hs20, kD10_2, kD12_5, kD14_8, kD10_1, kD12_4, kD14_7, hv0, hv1, hv3, hv4, hv6, hv7, hv9, hv11, hv13, kW2, kW5, kW8, kE2_5, kE2_8, kE5_8⟩ K hK
     clear hd; rw [if_pos (by rfl)]; have sv2 := hs2.trans sl2; have sv20 := hs20.trans sl20; have ks_b2 := kB_b2.1; have kc_b2_0 := kB_b2.cell 0 rfl; have kc_b2_1 := kB_b2.cell 1 rfl; have kc_b2_2 := kB_b2.cell 2 rfl; have kc_b2_3 := kB_b2.cell 3 rfl; have kc_b2_4 := kB_b2.cell 4 rfl; have kc_b2_5 := kB_b2.cell 5 rfl; have kc_b2_6 := kB_b2.cell 6 rfl; have kc_b2_7 := kB_b2.cell 7 rfl; unfold opF; go_simp
     refine hK _ _ ⟨(by first | exact kB_b2 | simpa [upd, updS] using kB_b2), kO, ?_, ?_, ?_, ?_, ?_, ?_, ?_, ?_, ?_, ?_, ?_, ?_, ?_, ?_, ?_, ?_, ?_, ?_, ?_, ?_, ?_, ?_, ?_⟩ <;> first | assumption | exact fun _ => rfl | (simp [upd, updS]; done) | (simp [upd, updS]; assumption)
   · rintro LJ sJ wJ hL hd ⟨kB_b2, kO, hs2, hs20, kD10_2, kD12_5, kD14_8, kD10_1, kD12_4, kD14_7, hv0, hv1, hv3, hv4, hv6, hv7, hv9, hv11, hv13, kW2, kW5, kW8, kE2_5, kE2_8, kE5_8⟩ K hK
     have ga3 := hd ⟨3, .data⟩ (by simp) rfl; have gv3 := hv3 ga3; clear hd; rw [if_pos (by rfl)]
     have nd12 : LJ 12 = false := by cases hh : LJ 12 with | false => rfl | true => exact absurd (kD12_4 hh) (by rw [hL]; decide)
     have sv2 := hs2.trans sl2; have sv20 := hs20.trans sl20; have ks_b2 := kB_b2.1; have kc_b2_0 := kB_b2.cell 0 rfl; have kc_b2_1 := kB_b2.cell 1 rfl; have kc_b2_2 := kB_b2.cell 2 rfl; have kc_b2_3 := kB_b2.cell 3 rfl; have kc_b2_4 := kB_b2.cell 4 rfl; have kc_b2_5 := kB_b2.cell 5 rfl; have kc_b2_6 := kB_b2.cell 6 rfl; have kc_b2_7 := kB_b2.cell 7 rfl
     (try simp only [nd12, cond_false] at kc_b2_0 kc_b2_1 kc_b2_3)
     unfold opF; go_simp
     refine hK _ _ ⟨(by simpa [upd, updS, nd12] using kB_b2), kO, ?_, ?_, ?_, ?_, ?_, ?_, ?_, ?_, ?_, ?_, ?_, ?_, ?_, ?_, ?_, ?_, ?_, ?_, ?_, ?_, ?_, ?_, ?_⟩ <;> first | assumption | exact fun _ => rfl | (simp [upd, updS]; done) | (simp [upd, updS]; assumption)
   · rintro LJ sJ wJ hL hd ⟨kB_b2, kO, hs2, hs20, kD10_2, kD12_5, kD14_8, kD10_1, kD12_4, kD14_7, hv0, hv1, hv3, hv4, hv6, hv7, hv9, hv11, hv13, kW2, kW5, kW8, kE2_5, kE2_8, kE5_8⟩ K hK
     have ga4 := hd ⟨4, .data⟩ (by simp) rfl; have gv4 := hv4 ga4; have ga2 := hd ⟨2, .chain⟩ (by simp) rfl; clear hd; rw [if_pos (by rfl)]
     have nd12 : LJ 12 = false := by cases hh : LJ 12 with | false => rfl | true => exact absurd (kD12_5 hh) (by rw [hL]; decide)
     have sv2 := hs2.trans sl2; have sv20 := hs20.trans sl20; unfold opF; go_simp; refine (cloneInt_any A.ta A.tc s.tape _ hl1 (Rd.oldB HR.out.tp (HB.out.more kO (by simp; try omega)) (by simp))).mono ?_; rintro e wN ⟨vN, rfl, hO, hbN⟩; have hsN := hbN.size; have hsO := kO.size; have hOn := hO; replace hO := Own.base (base' := w10.heap.size) hO (by omega)
     refine ⟨_, rfl, hK _ _ ⟨(by have hz := Cells.at kB_b2 hbN; simpa [upd, updS, nd12] using hz), (OldB.below kO hbN), ?_, ?_, ?_, ?_, ?_, ?_, ?_, ?_, ?_, ?_, ?_, ?_, ?_, ?_, ?_, ?_, ?_, (fun h1 => by first | exact Own.at (kW2 h1) hbN | (have h1 := (by simpa [upd] using h1 : LJ 2 = true); simpa [updS] using Own.at (kW2 h1) hbN)), (fun _ => by simpa [updS] using hO), (fun h1 => by first | exact Own.at (kW8 h1) hbN | (have h1 := (by simpa [upd] using h1 : LJ 8 = true); simpa [updS] using Own.at (kW8 h1) hbN)), (fun h1 h2 => by have h1 := (by simpa [upd] using h1 : LJ 2 = true); have hz : Apart (sJ 23) vN := (fun g g1 g2 => by have a1 := (World.ownsRow.lt (kW2 h1) g g1).2; have a2 := (World.ownsRow.lt hOn g g2).1; omega); simpa [updS] using hz), (fun h1 h2 => by first | exact kE2_8 h1 h2 | (have h1 := (by simpa [upd] using h1 : LJ 2 = true); have h2 := (by simpa [upd] using h2 : LJ 8 = true); simpa [updS] using kE2_8 h1 h2)), (fun h1 h2 => by have h2 := (by simpa [upd] using h2 : LJ 8 = true); have hz : Apart (sJ 29) vN := (fun g g1 g2 => by have a1 := (World.ownsRow.lt (kW8 h2) g g1).2; have a2 := (World.ownsRow.lt hOn g g2).1; omega); simpa [updS] using hz.symm)⟩⟩ <;> first | assumption | exact fun _ => rfl | (simp [upd, updS]; done) | (simp [upd, updS]; assumption)
   · rintro LJ sJ wJ hL hd ⟨kB_b2, kO, hs2, hs20, kD10_2, kD12_5, kD14_8, kD10_1, kD12_4, kD14_7, hv0, hv1, hv3, hv4, hv6, hv7, hv9, hv11, hv13, kW2, kW5, kW8, kE2_5, kE2_8, kE5_8⟩ K hK
     clear hd; rw [if_pos (by rfl)]; have sv2 := hs2.trans sl2; have sv20 := hs20.trans sl20; have ks_b2 := kB_b2.1; have kc_b2_0 := kB_b2.cell 0 rfl; have kc_b2_1 := kB_b2.cell 1 rfl; have kc_b2_2 := kB_b2.cell 2 rfl; have kc_b2_3 := kB_b2.cell 3 rfl; have kc_b2_4 := kB_b2.cell 4 rfl; have kc_b2_5 := kB_b2.cell 5 rfl; have kc_b2_6 := kB_b2.cell 6 rfl; have kc_b2_7 := kB_b2.cell 7 rfl; unfold opF; go_simp
     refine hK _ _ ⟨(by first | exact kB_b2 | simpa [upd, updS] using kB_b2), kO, ?_, ?_, ?_, ?_, ?_, ?_, ?_, ?_, ?_, ?_, ?_, ?_, ?_, ?_, ?_, ?_, ?_, ?_, ?_, ?_, ?_, ?_, ?_⟩ <;> first | assumption | exact fun _ => rfl | (simp [upd, updS]; done) | (simp [upd, updS]; assumption)
   · rintro LJ sJ wJ hL hd ⟨kB_b2, kO, hs2, hs20, kD10_2, kD12_5, kD14_8, kD10_1, kD12_4, kD14_7, hv0, hv1, hv3, hv4, hv6, hv7, hv9, hv11, hv13, kW2, kW5, kW8, kE2_5, kE2_8, kE5_8⟩ K hK
     have ga6 := hd ⟨6, .data⟩ (by simp) rfl; have gv6 := hv6 ga6; clear hd; rw [if_pos (by rfl)]
     have nd14 : LJ 14 = false := by cases hh : LJ 14 with | false => rfl | true => exact absurd (kD14_7 hh) (by rw [hL]; decide)
     have sv2 := hs2.trans sl2; have sv20 := hs20.trans sl20; have ks_b2 := kB_b2.1; have kc_b2_0 := kB_b2.cell 0 rfl; have kc_b2_1 := kB_b2.cell 1 rfl; have kc_b2_2 := kB_b2.cell 2 rfl; have kc_b2_3 := kB_b2.cell 3 rfl; have kc_b2_4 := kB_b2.cell 4 rfl; have kc_b2_5 := kB_b2.cell 5 rfl; have kc_b2_6 := kB_b2.cell 6 rfl; have kc_b2_7 := kB_b2.cell 7 rfl
     (try simp only [nd14, cond_false] at kc_b2_0 kc_b2_1 kc_b2_3)
     unfold opF; go_simp
     refine hK _ _ ⟨(by simpa [upd, updS, nd14] using kB_b2), kO, ?_, ?_, ?_, ?_, ?_, ?_, ?_, ?_, ?_, ?_, ?_, ?_, ?_, ?_, ?_, ?_, ?_, ?_, ?_, ?_, ?_, ?_, ?_⟩ <;> first | assumption | exact fun _ => rfl | (simp [upd, updS]; done) | (simp [upd, updS]; assumption)
   · rintro LJ sJ wJ hL hd ⟨kB_b2, kO, hs2, hs20, kD10_2, kD12_5, kD14_8, kD10_1, kD12_4, kD14_7, hv0, hv1, hv3, hv4, hv6, hv7, hv9, hv11, hv13, kW2, kW5, kW8, kE2_5, kE2_8, kE5_8⟩ K hK
     have ga7 := hd ⟨7, .data⟩ (by simp) rfl; have gv7 := hv7 ga7; have ga5 := hd ⟨5, .chain⟩ (by simp) rfl; clear hd; rw [if_pos (by rfl)]
     have nd14 : LJ 14 = false := by cases hh : LJ 14 with | false => rfl | true => exact absurd (kD14_8 hh) (by rw [hL]; decide)
     have sv2 := hs2.trans sl2; have sv20 := hs20.trans sl20; unfold opF; go_simp; refine (cloneInt_any A.pa A.pc s.printed _ hl2 (Rd.oldB HR.out.pr (HB.out.more kO (by simp; try omega)) (by simp))).mono ?_; rintro e wN ⟨vN, rfl, hO, hbN⟩; have hsN := hbN.size; have hsO := kO.size; have hOn := hO; replace hO := Own.base (base' := w10.heap.size) hO (by omega)
     refine ⟨_, rfl, hK _ _ ⟨(by have hz := Cells.at kB_b2 hbN; simpa [upd, updS, nd14] using hz), (OldB.below kO hbN), ?_, ?_, ?_, ?_, ?_, ?_, ?_, ?_, ?_, ?_, ?_, ?_, ?_, ?_, ?_, ?_, ?_, (fun h1 => by first | exact Own.at (kW2 h1) hbN | (have h1 := (by simpa [upd] using h1 : LJ 2 = true); simpa [updS] using Own.at (kW2 h1) hbN)), (fun h1 => by first | exact Own.at (kW5 h1) hbN | (have h1 := (by simpa [upd] using h1 : LJ 5 = true); simpa [updS] using Own.at (kW5 h1) hbN)), (fun _ => by simpa [updS] using hO), (fun h1 h2 => by first | exact kE2_5 h1 h2 | (have h1 := (by simpa [upd] using h1 : LJ 2 = true); have h2 := (by simpa [upd] using h2 : LJ 5 = true); simpa [updS] using kE2_5 h1 h2)), (fun h1 h2 => by have h1 := (by simpa [upd] using h1 : LJ 2 = true); have hz : Apart (sJ 23) vN := (fun g g1 g2 => by have a1 := (World.ownsRow.lt (kW2 h1) g g1).2; have a2 := (World.ownsRow.lt hOn g g2).1; omega); simpa [updS] using hz), (fun h1 h2 => by have h1 := (by simpa [upd] using h1 : LJ 5 = true); have hz : Apart (sJ 26) vN := (fun g g1 g2 => by have a1 := (World.ownsRow.lt (kW5 h1) g g1).2; have a2 := (World.ownsRow.lt hOn g g2).1; omega); simpa [updS] using hz)⟩⟩ <;> first | assumption | exact fun _ => rfl | (simp [upd, updS]; done) | (simp [upd, updS]; assumption)
   · rintro LJ sJ wJ hL hd ⟨kB_b2, kO, hs2, hs20, kD10_2, kD12_5, kD14_8, kD10_1, kD12_4, kD14_7, hv0, hv1, hv3, hv4, hv6, hv7, hv9, hv11, hv13, kW2, kW5, kW8, kE2_5, kE2_8, kE5_8⟩ K hK
     have ga0 := hd ⟨0, .phase⟩ (by simp) rfl; have gv0 := hv0 ga0; have ga1 := hd ⟨1, .phase⟩ (by simp) rfl; have gv1 := hv1 ga1; have ga2 := hd ⟨2, .phase⟩ (by simp) rfl; have ga3 := hd ⟨3, .phase⟩ (by simp) rfl; have gv3 := hv3 ga3; have ga4 := hd ⟨4, .phase⟩ (by simp) rfl; have gv4 := hv4 ga4; have ga6 := hd ⟨6, .phase⟩ (by simp) rfl; have gv6 := hv6 ga6; have ga7 := hd ⟨7, .phase⟩ (by simp) rfl; have gv7 := hv7 ga7; clear hd; rw [if_pos (by rfl)]; have sv2 := hs2.trans sl2; have sv20 := hs20.trans sl20; have ks_b2 := kB_b2.1; have kc_b2_0 := kB_b2.cell 0 rfl; have kc_b2_1 := kB_b2.cell 1 rfl; have kc_b2_2 := kB_b2.cell 2 rfl; have kc_b2_3 := kB_b2.cell 3 rfl; have kc_b2_4 := kB_b2.cell 4 rfl; have kc_b2_5 := kB_b2.cell 5 rfl; have kc_b2_6 := kB_b2.cell 6 rfl; have kc_b2_7 := kB_b2.cell 7 rfl; unfold opF; go_simp
     refine hK _ _ ⟨(by first | exact kB_b2 | simpa [upd, updS] using kB_b2), kO, ?_, ?_, ?_, ?_, ?_, ?_, ?_, ?_, ?_, ?_, ?_, ?_, ?_, ?_, ?_, ?_, ?_, ?_, ?_, ?_, ?_, ?_, ?_⟩ <;> first | assumption | exact fun _ => rfl | (simp [upd, updS]; done) | (simp [upd, updS]; assumption)
   · rintro LJ sJ wJ hL hd ⟨kB_b2, kO, hs2, hs20, kD10_2, kD12_5, kD14_8, kD10_1, kD12_4, kD14_7, hv0, hv1, hv3, hv4, hv6, hv7, hv9, hv11, hv13, kW2, kW5, kW8, kE2_5, kE2_8, kE5_8⟩ K hK
     have ga9 := hd ⟨9, .data⟩ (by simp) rfl; have gv9 := hv9 ga9; have ga2 := hd ⟨2, .data⟩ (by simp) rfl; have ga8 := hd ⟨8, .chain⟩ (by simp) rfl; have ga0 := hd ⟨0, .phase⟩ (by simp) rfl; have gv0 := hv0 ga0; have ga1 := hd ⟨1, .phase⟩ (by simp) rfl; have gv1 := hv1 ga1; have ga2 := hd ⟨2, .phase⟩ (by simp) rfl; have ga3 := hd ⟨3, .phase⟩ (by simp) rfl; have gv3 := hv3 ga3; have ga4 := hd ⟨4, .phase⟩ (by simp) rfl; have gv4 := hv4 ga4; have ga6 := hd ⟨6, .phase⟩ (by simp) rfl; have gv6 := hv6 ga6; have ga7 := hd ⟨7, .phase⟩ (by simp) rfl; have gv7 := hv7 ga7; clear hd; rw [if_pos (by rfl)]; have sv2 := hs2.trans sl2; have sv20 := hs20.trans sl20; have ccs := kB_b2.1; have ccz := kB_b2.2.2; have kc_b2_0 := kB_b2.cell 0 rfl; have kc_b2_1 := kB_b2.cell 1 rfl; have kc_b2_2 := kB_b2.cell 2 rfl; have kc_b2_3 := kB_b2.cell 3 rfl; have kc_b2_4 := kB_b2.cell 4 rfl; have kc_b2_5 := kB_b2.cell 5 rfl; have kc_b2_6 := kB_b2.cell 6 rfl; have kc_b2_7 := kB_b2.cell 7 rfl
     have kWs := kW2 ga2; obtain ⟨ay, cy, hvy, _, _⟩ := Own.slice (f := int1) (m := 1) (fun _ => rfl) kWs; have Hvy := hid hvy; unfold opF; go_simp
     refine hK undef _ ⟨(by have hz := Cells.set (i := 0) (u := Value.slice ay (s.store).length cy) kB_b2; simpa [upd, updS, hL, Hvy.out] using hz), (OldB.set kO (by simp)), ?_, ?_, (by simp [upd]; first | exact ga2 | (exact kD10_2 (by assumption))), ?_, ?_, (by simp [upd]; first | exact ga1 | (exact kD10_1 (by assumption))), ?_, ?_, ?_, ?_, ?_, ?_, ?_, ?_, ?_, ?_, ?_, (fun h1 => by first | exact Own.setFar' (kW2 h1) (by omega) _ | (have h1 := (by simpa [upd] using h1 : LJ 2 = true); simpa [updS] using Own.setFar' (kW2 h1) (by omega) _)), (fun h1 => by first | exact Own.setFar' (kW5 h1) (by omega) _ | (have h1 := (by simpa [upd] using h1 : LJ 5 = true); simpa [updS] using Own.setFar' (kW5 h1) (by omega) _)), (fun h1 => by first | exact Own.setFar' (kW8 h1) (by omega) _ | (have h1 := (by simpa [upd] using h1 : LJ 8 = true); simpa [updS] using Own.setFar' (kW8 h1) (by omega) _)), (fun h1 h2 => by first | exact kE2_5 h1 h2 | (have h1 := (by simpa [upd] using h1 : LJ 2 = true); have h2 := (by simpa [upd] using h2 : LJ 5 = true); simpa [updS] using kE2_5 h1 h2)), (fun h1 h2 => by first | exact kE2_8 h1 h2 | (have h1 := (by simpa [upd] using h1 : LJ 2 = true); have h2 := (by simpa [upd] using h2 : LJ 8 = true); simpa [updS] using kE2_8 h1 h2)), (fun h1 h2 => by first | exact kE5_8 h1 h2 | (have h1 := (by simpa [upd] using h1 : LJ 5 = true); have h2 := (by simpa [upd] using h2 : LJ 8 = true); simpa [updS] using kE5_8 h1 h2))⟩ <;> first | assumption | exact fun _ => rfl | (simp [upd, updS]; done) | (simp [upd, updS]; assumption)
   · rintro LJ sJ wJ hL hd ⟨kB_b2, kO, hs2, hs20, kD10_2, kD12_5, kD14_8, kD10_1, kD12_4, kD14_7, hv0, hv1, hv3, hv4, hv6, hv7, hv9, hv11, hv13, kW2, kW5, kW8, kE2_5, kE2_8, kE5_8⟩ K hK
     have ga0 := hd ⟨0, .phase⟩ (by simp) rfl; have gv0 := hv0 ga0; have ga1 := hd ⟨1, .phase⟩ (by simp) rfl; have gv1 := hv1 ga1; have ga2 := hd ⟨2, .phase⟩ (by simp) rfl; have ga3 := hd ⟨3, .phase⟩ (by simp) rfl; have gv3 := hv3 ga3; have ga4 := hd ⟨4, .phase⟩ (by simp) rfl; have gv4 := hv4 ga4; have ga5 := hd ⟨5, .phase⟩ (by simp) rfl; have ga6 := hd ⟨6, .phase⟩ (by simp) rfl; have gv6 := hv6 ga6; have ga7 := hd ⟨7, .phase⟩ (by simp) rfl; have gv7 := hv7 ga7; have ga9 := hd ⟨9, .phase⟩ (by simp) rfl; have gv9 := hv9 ga9; have ga10 := hd ⟨10, .phase⟩ (by simp) rfl; clear hd; rw [if_pos (by rfl)]; have sv2 := hs2.trans sl2; have sv20 := hs20.trans sl20; have ks_b2 := kB_b2.1; have kc_b2_0 := kB_b2.cell 0 rfl; have kc_b2_1 := kB_b2.cell 1 rfl; have kc_b2_2 := kB_b2.cell 2 rfl; have kc_b2_3 := kB_b2.cell 3 rfl; have kc_b2_4 := kB_b2.cell 4 rfl; have kc_b2_5 := kB_b2.cell 5 rfl; have kc_b2_6 := kB_b2.cell 6 rfl; have kc_b2_7 := kB_b2.cell 7 rfl; unfold opF; go_simp
     refine hK _ _ ⟨(by first | exact kB_b2 | simpa [upd, updS] using kB_b2), kO, ?_, ?_, ?_, ?_, ?_, ?_, ?_, ?_, ?_, ?_, ?_, ?_, ?_, ?_, ?_, ?_, ?_, ?_, ?_, ?_, ?_, ?_, ?_⟩ <;> first | assumption | exact fun _ => rfl | (simp [upd, updS]; done) | (simp [upd, updS]; assumption)
   · rintro LJ sJ wJ hL hd ⟨kB_b2, kO, hs2, hs20, kD10_2, kD12_5, kD14_8, kD10_1, kD12_4, kD14_7, hv0, hv1, hv3, hv4, hv6, hv7, hv9, hv11, hv13, kW2, kW5, kW8, kE2_5, kE2_8, kE5_8⟩ K hK
     have ga11 := hd ⟨11, .data⟩ (by simp) rfl; have gv11 := hv11 ga11; have ga5 := hd ⟨5, .data⟩ (by simp) rfl; have ga10 := hd ⟨10, .chain⟩ (by simp) rfl; have ga0 := hd ⟨0, .phase⟩ (by simp) rfl; have gv0 := hv0 ga0; have ga1 := hd ⟨1, .phase⟩ (by simp) rfl; have gv1 := hv1 ga1; have ga2 := hd ⟨2, .phase⟩ (by simp) rfl; have ga3 := hd ⟨3, .phase⟩ (by simp) rfl; have gv3 := hv3 ga3; have ga4 := hd ⟨4, .phase⟩ (by simp) rfl; have gv4 := hv4 ga4; have ga5 := hd ⟨5, .phase⟩ (by simp) rfl; have ga6 := hd ⟨6, .phase⟩ (by simp) rfl; have gv6 := hv6 ga6; have ga7 := hd ⟨7, .phase⟩ (by simp) rfl; have gv7 := hv7 ga7; have ga9 := hd ⟨9, .phase⟩ (by simp) rfl; have gv9 := hv9 ga9; have ga10 := hd ⟨10, .phase⟩ (by simp) rfl; clear hd; rw [if_pos (by rfl)]; have sv2 := hs2.trans sl2; have sv20 := hs20.trans sl20; have ccs := kB_b2.1; have ccz := kB_b2.2.2; have kc_b2_0 := kB_b2.cell 0 rfl; have kc_b2_1 := kB_b2.cell 1 rfl; have kc_b2_2 := kB_b2.cell 2 rfl; have kc_b2_3 := kB_b2.cell 3 rfl
     have kc_b2_4 := kB_b2.cell 4 rfl; have kc_b2_5 := kB_b2.cell 5 rfl; have kc_b2_6 := kB_b2.cell 6 rfl; have kc_b2_7 := kB_b2.cell 7 rfl; have kWs := kW5 ga5; obtain ⟨ay, cy, hvy, _, _⟩ := Own.slice (f := int1) (m := 1) (fun _ => rfl) kWs; have Hvy := hid hvy; unfold opF; go_simp
     refine hK undef _ ⟨(by have hz := Cells.set (i := 1) (u := Value.slice ay (s.tape).length cy) kB_b2; simpa [upd, updS, hL, Hvy.out] using hz), (OldB.set kO (by simp)), ?_, ?_, ?_, (by simp [upd]; first | exact ga5 | (exact kD12_5 (by assumption))), ?_, ?_, (by simp [upd]; first | exact ga4 | (exact kD12_4 (by assumption))), ?_, ?_, ?_, ?_, ?_, ?_, ?_, ?_, ?_, ?_, (fun h1 => by first | exact Own.setFar' (kW2 h1) (by omega) _ | (have h1 := (by simpa [upd] using h1 : LJ 2 = true); simpa [updS] using Own.setFar' (kW2 h1) (by omega) _)), (fun h1 => by first | exact Own.setFar' (kW5 h1) (by omega) _ | (have h1 := (by simpa [upd] using h1 : LJ 5 = true); simpa [updS] using Own.setFar' (kW5 h1) (by omega) _)), (fun h1 => by first | exact Own.setFar' (kW8 h1) (by omega) _ | (have h1 := (by simpa [upd] using h1 : LJ 8 = true); simpa [updS] using Own.setFar' (kW8 h1) (by omega) _)), (fun h1 h2 => by first | exact kE2_5 h1 h2 | (have h1 := (by simpa [upd] using h1 : LJ 2 = true); have h2 := (by simpa [upd] using h2 : LJ 5 = true); simpa [updS] using kE2_5 h1 h2)), (fun h1 h2 => by first | exact kE2_8 h1 h2 | (have h1 := (by simpa [upd] using h1 : LJ 2 = true); have h2 := (by simpa [upd] using h2 : LJ 8 = true); simpa [updS] using kE2_8 h1 h2)), (fun h1 h2 => by first | exact kE5_8 h1 h2 | (have h1 := (by simpa [upd] using h1 : LJ 5 = true); have h2 := (by simpa [upd] using h2 : LJ 8 = true); simpa [updS] using kE5_8 h1 h2))⟩ <;> first | assumption | exact fun _ => rfl | (simp [upd, updS]; done) | (simp [upd, updS]; assumption)
   · rintro LJ sJ wJ hL hd ⟨kB_b2, kO, hs2, hs20, kD10_2, kD12_5, kD14_8, kD10_1, kD12_4, kD14_7, hv0, hv1, hv3, hv4, hv6, hv7, hv9, hv11, hv13, kW2, kW5, kW8, kE2_5, kE2_8, kE5_8⟩ K hK
     have ga0 := hd ⟨0, .phase⟩ (by simp) rfl; have gv0 := hv0 ga0; have ga1 := hd ⟨1, .phase⟩ (by simp) rfl; have gv1 := hv1 ga1; have ga2 := hd ⟨2, .phase⟩ (by simp) rfl; have ga3 := hd ⟨3, .phase⟩ (by simp) rfl; have gv3 := hv3 ga3; have ga4 := hd ⟨4, .phase⟩ (by simp) rfl; have gv4 := hv4 ga4; have ga5 := hd ⟨5, .phase⟩ (by simp) rfl; have ga6 := hd ⟨6, .phase⟩ (by simp) rfl; have gv6 := hv6 ga6; have ga7 := hd ⟨7, .phase⟩ (by simp) rfl; have gv7 := hv7 ga7; have ga8 := hd ⟨8, .phase⟩ (by simp) rfl; have ga9 := hd ⟨9, .phase⟩ (by simp) rfl; have gv9 := hv9 ga9; have ga10 := hd ⟨10, .phase⟩ (by simp) rfl; have ga11 := hd ⟨11, .phase⟩ (by simp) rfl; have gv11 := hv11 ga11; have ga12 := hd ⟨12, .phase⟩ (by simp) rfl; clear hd; rw [if_pos (by rfl)]; have sv2 := hs2.trans sl2; have sv20 := hs20.trans sl20; have ks_b2 := kB_b2.1; have kc_b2_0 := kB_b2.cell 0 rfl; have kc_b2_1 := kB_b2.cell 1 rfl; have kc_b2_2 := kB_b2.cell 2 rfl; have kc_b2_3 := kB_b2.cell 3 rfl
     have kc_b2_4 := kB_b2.cell 4 rfl; have kc_b2_5 := kB_b2.cell 5 rfl; have kc_b2_6 := kB_b2.cell 6 rfl; have kc_b2_7 := kB_b2.cell 7 rfl; unfold opF; go_simp
     refine hK _ _ ⟨(by first | exact kB_b2 | simpa [upd, updS] using kB_b2), kO, ?_, ?_, ?_, ?_, ?_, ?_, ?_, ?_, ?_, ?_, ?_, ?_, ?_, ?_, ?_, ?_, ?_, ?_, ?_, ?_, ?_, ?_, ?_⟩ <;> first | assumption | exact fun _ => rfl | (simp [upd, updS]; done) | (simp [upd, updS]; assumption)
   · rintro LJ sJ wJ hL hd ⟨kB_b2, kO, hs2, hs20, kD10_2, kD12_5, kD14_8, kD10_1, kD12_4, kD14_7, hv0, hv1, hv3, hv4, hv6, hv7, hv9, hv11, hv13, kW2, kW5, kW8, kE2_5, kE2_8, kE5_8⟩ K hK
     have ga13 := hd ⟨13, .data⟩ (by simp) rfl; have gv13 := hv13 ga13; have ga8 := hd ⟨8, .data⟩ (by simp) rfl; have ga12 := hd ⟨12, .chain⟩ (by simp) rfl; have ga0 := hd ⟨0, .phase⟩ (by simp) rfl; have gv0 := hv0 ga0; have ga1 := hd ⟨1, .phase⟩ (by simp) rfl; have gv1 := hv1 ga1; have ga2 := hd ⟨2, .phase⟩ (by simp) rfl; have ga3 := hd ⟨3, .phase⟩ (by simp) rfl; have gv3 := hv3 ga3; have ga4 := hd ⟨4, .phase⟩ (by simp) rfl; have gv4 := hv4 ga4; have ga5 := hd ⟨5, .phase⟩ (by simp) rfl; have ga6 := hd ⟨6, .phase⟩ (by simp) rfl; have gv6 := hv6 ga6; have ga7 := hd ⟨7, .phase⟩ (by simp) rfl; have gv7 := hv7 ga7; have ga8 := hd ⟨8, .phase⟩ (by simp) rfl; have ga9 := hd ⟨9, .phase⟩ (by simp) rfl; have gv9 := hv9 ga9; have ga10 := hd ⟨10, .phase⟩ (by simp) rfl; have ga11 := hd ⟨11, .phase⟩ (by simp) rfl; have gv11 := hv11 ga11; have ga12 := hd ⟨12, .phase⟩ (by simp) rfl; clear hd; rw [if_pos (by rfl)]; have sv2 := hs2.trans sl2; have sv20 := hs20.trans sl20
     have ccs := kB_b2.1; have ccz := kB_b2.2.2; have kc_b2_0 := kB_b2.cell 0 rfl; have kc_b2_1 := kB_b2.cell 1 rfl; have kc_b2_2 := kB_b2.cell 2 rfl; have kc_b2_3 := kB_b2.cell 3 rfl; have kc_b2_4 := kB_b2.cell 4 rfl; have kc_b2_5 := kB_b2.cell 5 rfl; have kc_b2_6 := kB_b2.cell 6 rfl; have kc_b2_7 := kB_b2.cell 7 rfl; have kWs := kW8 ga8; obtain ⟨ay, cy, hvy, _, _⟩ := Own.slice (f := int1) (m := 1) (fun _ => rfl) kWs; have Hvy := hid hvy; unfold opF; go_simp
     refine hK undef _ ⟨(by have hz := Cells.set (i := 3) (u := Value.slice ay (s.printed).length cy) kB_b2; simpa [upd, updS, hL, Hvy.out] using hz), (OldB.set kO (by simp)), ?_, ?_, ?_, ?_, (by simp [upd]; first | exact ga8 | (exact kD14_8 (by assumption))), ?_, ?_, (by simp [upd]; first | exact ga7 | (exact kD14_7 (by assumption))), ?_, ?_, ?_, ?_, ?_, ?_, ?_, ?_, ?_, (fun h1 => by first | exact Own.setFar' (kW2 h1) (by omega) _ | (have h1 := (by simpa [upd] using h1 : LJ 2 = true); simpa [updS] using Own.setFar' (kW2 h1) (by omega) _)), (fun h1 => by first | exact Own.setFar' (kW5 h1) (by omega) _ | (have h1 := (by simpa [upd] using h1 : LJ 5 = true); simpa [updS] using Own.setFar' (kW5 h1) (by omega) _)), (fun h1 => by first | exact Own.setFar' (kW8 h1) (by omega) _ | (have h1 := (by simpa [upd] using h1 : LJ 8 = true); simpa [updS] using Own.setFar' (kW8 h1) (by omega) _)), (fun h1 h2 => by first | exact kE2_5 h1 h2 | (have h1 := (by simpa [upd] using h1 : LJ 2 = true); have h2 := (by simpa [upd] using h2 : LJ 5 = true); simpa [updS] using kE2_5 h1 h2)), (fun h1 h2 => by first | exact kE2_8 h1 h2 | (have h1 := (by simpa [upd] using h1 : LJ 2 = true); have h2 := (by simpa [upd] using h2 : LJ 8 = true); simpa [updS] using kE2_8 h1 h2)), (fun h1 h2 => by first | exact kE5_8 h1 h2 | (have h1 := (by simpa [upd] using h1 : LJ 5 = true); have h2 := (by simpa [upd] using h2 : LJ 8 = true); simpa [updS] using kE5_8 h1 h2))⟩ <;> first | assumption | exact fun _ => rfl | (simp [upd, updS]; done) | (simp [upd, updS]; assumption)
 rintro s14 w13 ⟨v23, v26, v29, hb15, mb2', hO23, hO26, hO29, ap_hO23_hO26, ap_hO23_hO29, ap_hO26_hO29, e2⟩; replace sl2 := e2.trans sl2; clear e2; clear sl20; have ghO23 : w.heap.size ≤ w10.heap.size := HB.out.size; clear qb2 qb19; replace kb2 := mb2'; replace kb19 := kb19.oldB hb15 (by first | (simp; done) | (simp; omega)); replace HB := hid (HB.out.more hb15 (by simp; try omega)); clear hb15; have qb2 := kb2.1; have qb19 := kb19.1; clear mb2'; obtain ⟨G, cG, rfl, hgG, hgn⟩ := (Own.form hO23).resolve_left (fun h => by have h9 := HO.out.l0; rw [h.2] at h9; simp at h9); obtain ⟨ta, tc, rfl, hr26, hn26⟩ := Own.slice (f := int1) (m := 1) (fun _ => rfl) hO26; obtain ⟨qa, qc, rfl, hr29, hn29⟩ := Own.slice (f := int1) (m := 1) (fun _ => rfl) hO29; clear hr26 hr29 hn29 hgn
 repeat ((fail_if_success refine stp ?_); with_reducible go_step)
 refine region_F ?_; have cb2_0 := kb2.cell 0 rfl; have cb2_1 := kb2.cell 1 rfl; have cb2_2 := kb2.cell 2 rfl; have cb2_3 := kb2.cell 3 rfl; have cb2_4 := kb2.cell 4 rfl; have cb2_5 := kb2.cell 5 rfl; have cb2_6 := kb2.cell 6 rfl; have cb2_7 := kb2.cell 7 rfl; refine pl ?_; refine pl ?_; refine pa (fun w16 B35 hB kb35' hb17 => ?_); have gb35 := HB.out.gB hB; have ob2_b35 := oB qb2 hB; have ob19_b35 := oB qb19 hB
 have nhO23_b35 : ∀ g, (Value.slice (some ⟨G, 0, none⟩) s.store.length cG).ownBlock = some g → g < B35 := fun g hg => by have := (World.ownsRow.lt hO23 g hg).2; omega
 have nhO26_b35 : ∀ g, (Value.slice ta s.tape.length tc).ownBlock = some g → g < B35 := fun g hg => by have := (World.ownsRow.lt hO26 g hg).2; omega
 have nhO29_b35 : ∀ g, (Value.slice qa s.printed.length qc).ownBlock = some g → g < B35 := fun g hg => by have := (World.ownsRow.lt hO29 g hg).2; omega
 have eb35 := eB hB; clear hB; clear cb2_0 cb2_1 cb2_2 cb2_3 cb2_4 cb2_5 cb2_6 cb2_7; clear qb2 qb19; replace kb2 := kb2.at hb17; replace kb19 := kb19.at hb17; replace hO23 := Own.at hO23 hb17; replace hO26 := Own.at hO26 hb17; replace hO29 := Own.at hO29 hb17; replace HB := hid (HB.out.below hb17); clear hb17; have qb2 := kb2.1; have qb19 := kb19.1; have kb35 := kb35'; clear kb35'; have qb35 := kb35.1; refine pl ?_; refine pl ?_; refine listF_abs (fun s18 z' => ?_); have sl4 := gu 4 z'; have sl5 := gu 5 z'; clear z' sl2; refine listF_nil ?_
 repeat ((fail_if_success refine stp ?_); with_reducible go_step)
 refine ret_F _ (res_tt Tryz.results71 ((getD_F (by decide)).trans sl4) ((getD_F (by decide)).trans sl5)) ?_; refine ⟨B35, rfl, ⟨G, cG, ta, tc, qa, qc, gb35, by omega, fun e => ?_, kb35, Own.toCells hO23, Own.base hO29 ghO23, fun e => ?_, fun e => ap_hO23_hO29 G rfl e, Own.rd' (f := int1) (m := 1) (fun _ => rfl) hO26 rfl, fun _ b hb => ?_, by simp⟩, HB.out.toBelow⟩
 · have := nhO23_b35 G rfl; omega
 · have := nhO29_b35 _ e; omega
 · have e9 : (Value.slice ta s.tape.length tc).ownBlock = some b.block := by rw [hb]; rfl
   have h1 := nhO26_b35 _ e9; have h2 := hn26 b hb; exact ⟨by omega, by omega, fun e => ap_hO23_hO26 G rfl (by rw [e9, e]), fun e => ap_hO26_hO29 _ e9 e⟩
end

section
open Go.RowKit

section
variable {ds : List Deferred}
theorem cond_EI {P : Program} {m t : Nat} {F : Fence} {x y : Code} {n : Nat} {Q : Exit → Act → World → Prop} {s : Nat → Value} {w : World} {E : Bool} (hc : s t = .bool E) (ht : t < n)
    (h1 : E = true → s t = .bool true → x.wpIn F m P Q (mkA n s ds) w) (h2 : E = false → s t = .bool false → y.wpIn F m P Q (mkA n s ds) w) : (Code.cond (.tmp t) x y).wpIn F m P Q (mkA n s ds) w := by
  cases E with
  | true => exact wpIn_cond (t := true) (by rw [mkA_eval]; simp [evF, ht, hc]) (by simpa using h1 rfl hc)
  | false => exact wpIn_cond (t := false) (by rw [mkA_eval]; simp [evF, ht, hc]) (by simpa using h2 rfl hc)
theorem then_n {K : Act → World → Prop} {Q : Exit → Act → World → Prop} {a : Act} {w : World} (h : K a w) : Exit.then K Q .normal a w := h
theorem then_x {K : Act → World → Prop} {Q : Exit → Act → World → Prop} {a : Act} {w : World} {id : Nat} (h : Q (.exit id) a w) : Exit.then K Q (.exit id) a w := h
theorem then_r {K : Act → World → Prop} {Q : Exit → Act → World → Prop} {a : Act} {w : World} (h : Q .ret a w) : Exit.then K Q .ret a w := h
theorem inB_n {id : Nat} {Q : Exit → Act → World → Prop} {a : Act} {w : World} (h : Q .normal a w) : Exit.inBlock id Q .normal a w := h
theorem inB_x {id : Nat} {Q : Exit → Act → World → Prop} {a : Act} {w : World} (h : Q .normal a w) : Exit.inBlock id Q (.exit id) a w := by simp [Exit.inBlock, h]
theorem inB_r {id : Nat} {Q : Exit → Act → World → Prop} {a : Act} {w : World} (h : Q .ret a w) : Exit.inBlock id Q .ret a w := h
theorem out_then {K : Act → World → Prop} {Q : Exit → Act → World → Prop} (h : ¬ LetsOut Q) : ¬ LetsOut (Exit.then K Q) := fun ⟨a, w, hz⟩ => h ⟨a, w, hz⟩
theorem out_inB {id : Nat} {Q : Exit → Act → World → Prop} (h : ¬ LetsOut Q) : ¬ LetsOut (Exit.inBlock id Q) := fun ⟨a, w, hz⟩ => h ⟨a, w, hz⟩
end

section
variable {ds : List Deferred}
variable {P : Program} {l : List Oper} {n : Nat} {w0 : World} {Bs rs : List Nat} {K : (Nat → Value) → World → Prop} {ks : List OK} {vs : List (Ad → Value)} {cs : List (Ad → List Value)} {s0 : Nat → Value} {d0 : Nat → List Value}
theorem regionR_FI {m : Nat} {ρ : Option Nat} {id : Nat} {Q : Exit → Act → World → Prop} {s : Nat → Value} {w : World} (Bs : List Nat) (bc : List (List Value)) (rs : List Nat) (ks : List OK) (vs : List (Ad → Value)) (cs : List (Ad → List Value))
    (hm : P.follows .mixedOrders = true) (hb : backB l.toArray = true) (hdn : dstB l.toArray (List.range n) = true) (hchk : chkR l ks Bs.length = true) (hrs : rsOk ks l.length Bs.length rs = true)
    (hN : Bs.Nodup) (hB : ∀ k b, Bs[k]? = some b → Cells w b (bc.getD k []))
    (hw : walkR P ks l.toArray n w.drew Bs rs (fun s w => Q .normal (mkA n s ds) w) 0 l ks vs cs (fun _ => s) (fun _ r => bc.getD (r - l.length) []))
    (hdep : depR l.length (Region.before l.toArray) 0 vs cs) (hq : ¬ LetsOut Q) (hnd : noDefer l = true) : (Code.region id l.toArray true).wpIn (Fw ρ) m P Q (mkA n s ds) w := by
  have hc := chk_of hchk
  have hBl : ∀ b ∈ Bs, b < w.drew.heap.size := by
    intro b hb
    obtain ⟨k, hk, rfl⟩ := List.mem_iff_getElem.1 hb
    exact (hB k Bs[k] (by simp [hk])).1
  obtain ⟨g1, g2⟩ := walkR_get (l := l) (ks := ks) (vs := vs) (cs := cs) (s0 := s) (d0 := fun r => bc.getD (r - l.length) []) (kk := ks) ks.length 0 (by omega) hw
  let J : (Nat → Bool) → (Nat → Value) → World → Prop := fun L s' w' => (∃ X, J1 l n w.drew Bs ks vs cs s (fun r => bc.getD (r - l.length) []) X L s' w') ∨ J2 P l n ks.length (fun s w => Q .normal (mkA n s ds) w) L s' w'
  have hstep2 : ∀ (i : Nat) (o : Oper) (L : Nat → Bool) (s' : Nat → Value) (w' : World), l[i]? = some o → L i = false → (∀ j, j < i → L j = true) → J2 P l n ks.length (fun s w => Q .normal (mkA n s ds) w) L s' w' → ∀ Kv : Value → World → Prop, (∀ v w1, J (upd L i) (updS s' o.dst v) w1 → Kv v w1) → if Region.wanted o (yielded l.toArray (tmA n s')) then opF P o n s' w' Kv else Kv undef w' := by
    intro i o L s' w' ho hL hlow ⟨k, hk1, hk2, hk3, s2, hs2, hl2⟩ Kv hK
    have hik : i = k := by
      have h1 := hk3 i
      rw [hL] at h1
      have : ¬ i < k := by simpa using h1.symm
      rcases Nat.lt_or_ge k i with h2 | h2
      · have := hlow k h2
        rw [hk3 k] at this; simp at this
      · omega
    subst hik
    have hil : i < l.length := (List.getElem?_eq_some_iff.1 ho).1
    rw [List.drop_eq_getElem_cons hil] at hl2
    have e : l[i] = o := by rw [List.getElem?_eq_getElem hil] at ho; exact Option.some.inj ho
    rw [e] at hl2
    refine listF_congr hs2 Kv (fun v w1 h => hK v w1 (.inr ⟨i + 1, by omega, by omega, fun j => ?_, updS s2 o.dst v, upd_agree hs2 _ _, h⟩)) hl2
    by_cases hj : j = i
    · subst hj; simp [upd]
    · rw [upd_ne hj, hk3 j]
      by_cases h : j < i
      · simp [h]; omega
      · simp [h]; omega
  refine regionI_FI J hq hnd hm hb hdn ?_ ?_ (invF_of l 0 ?_)
  · -- the start
    let X0 : Ad := fun r => if r < l.length then w.heap.size + r else Bs.getD (r - l.length) 0
    refine .inl ⟨X0, ?_, ⟨rfl, rfl, rfl, Nat.le_refl _, fun _ _ _ => rfl⟩, fun _ h => (by cases h), fun _ _ h => (by cases h), fun _ h => (by cases h), ?_, fun _ _ h => (by cases h), fun d hd _ => if_pos hd⟩
    · refine ⟨fun i hi => ?_, fun i j hi hj hne => ?_, fun k b hk => ?_⟩
      · have := isA_lt hi; have := hc.le
        show w.heap.size ≤ if i < l.length then w.heap.size + i else _
        rw [if_pos (by omega)]; omega
      · have := isA_lt hi; have := isA_lt hj; have := hc.le
        show (if i < l.length then w.heap.size + i else _) ≠ if j < l.length then w.heap.size + j else _
        rw [if_pos (by omega), if_pos (by omega)]; omega
      · show (if l.length + k < l.length then _ else Bs.getD (l.length + k - l.length) 0) = b
        rw [if_neg (by omega), show l.length + k - l.length = k by omega, List.getD_eq_getElem?_getD, hk]; rfl
    · intro r hr
      rcases hr with ⟨h, _⟩ | ⟨h1, h2⟩
      · cases h
      · have hk : r - l.length < Bs.length := by omega
        have e : X0 r = Bs[r - l.length] := by
          show (if r < l.length then _ else Bs.getD (r - l.length) 0) = _
          rw [if_neg (by omega), List.getD_eq_getElem?_getD, List.getElem?_eq_getElem hk]; rfl
        rw [e, cnL_skip (i := 0) ks.length (Nat.zero_le _) fun _ _ _ _ => rfl]
        exact (hB (r - l.length) _ (List.getElem?_eq_getElem hk)).drew
  · -- the end
    intro s' w' hJ
    have hend : J2 P l n ks.length (fun s w => Q .normal (mkA n s ds) w) (fun j => decide (j < l.length)) s' w' := by
      rcases hJ with ⟨X, hJ⟩ | hJ
      · exact hJ.fin hc hrs g2 fun j hj => by have := hc.le; simp; omega
      · exact hJ
    obtain ⟨k, hk1, hk2, hk3, s2, hs2, hl2⟩ := hend
    have : k = l.length := by
      have h1 := hk3 k
      simp only [Nat.lt_irrefl, decide_false, decide_eq_false_iff_not] at h1
      omega
    subst this
    rw [List.drop_length] at hl2
    rw [mkA_congr hs2]
    exact hl2
  · -- an operation
    intro i o ho L s' w' hL hd hJ Kv hK
    rw [Nat.zero_add] at hL
    simp only [Nat.zero_add] at hK
    by_cases him : i < ks.length
    · rcases hJ with ⟨X, hJ⟩ | hJ
      · exact looks_step hc hdep hBl hN (g1 i (Nat.zero_le _) him) hJ ho hL hd Kv fun X v w1 h => hK v w1 (.inl ⟨X, h⟩)
      · obtain ⟨k, hk1, _, hk3, _⟩ := hJ
        rw [hk3 i] at hL
        simp at hL; omega
    · have hil : i < l.length := (List.getElem?_eq_some_iff.1 ho).1
      rcases hJ with ⟨X, hJ⟩ | hJ
      · have hlow : ∀ j, j < i → L j = true := by
          intro j hj
          have ha := hc.tail i j hil (by omega) hj
          obtain ⟨e, he, hb', hor⟩ := hc.anc i j o ho ha
          rcases hor with rfl | hor
          · exact hd e he hb'
          · exact hJ.cl e.on j (hd e he hb') hor
        exact hstep2 i o L s' w' ho hL hlow (hJ.fin hc hrs g2 fun j hj => hlow j (by omega)) Kv hK
      · have hJ' := hJ
        obtain ⟨k, hk1, hk2, hk3, _⟩ := hJ'
        have hlow : ∀ j, j < i → L j = true := by
          intro j hj
          have ha := hc.tail i j hil (by omega) hj
          obtain ⟨e, he, hb', hor⟩ := hc.anc i j o ho ha
          have hon := hd e he hb'
          rcases hor with rfl | hor
          · exact hon
          · rw [hk3] at hon ⊢
            simp only [decide_eq_true_eq] at hon ⊢
            have := hc.lt e.on j (by omega) hor
            omega
        exact hstep2 i o L s' w' ho hL hlow hJ Kv hK
end
end

section
open Go.RowKit

section
variable {P : Program} {n : Nat} {s : Nat → Value} {w : World} {Q : Exit → Act → World → Prop} {ds : List Deferred} {o : Oper}
/-- a call of yield with whatever values -/
theorem yield_inA {ops : Array Oper} {os : List Oper} {l d : Nat} {vs : Array Value} {R : Ending → World → Prop} (hg : o.guard = none) (hd : ∀ c, o.op ≠ .defer c) (hdst : o.dst = some d)
    (hr : (execOp (evF n s) o).run P w = (Instr.yield l vs).run P w) (hy : YieldAt Fence.wide 0 P l vs w R)
    (hk : ∀ e w', R e w' → ∃ x, e = .returned x ∧ wpListIn (Fw none) 0 P ops Q os (mkA n (updS s (some d) x) ds) w') : wpListIn (Fw none) 0 P ops Q (o :: os) (mkA n s ds) w := by
  obtain ⟨fn, tmps, assign, body, h1, h2⟩ := hy
  unfold wpListIn
  rw [if_pos (by simp [Region.wanted, hg])]
  refine ⟨fun _ _ => trivial, ?_⟩
  show o.uponIn (Fw none) 0 P (mkA n s ds) _ Q ((o.semAt none (mkA n s ds).eval).run P w)
  rw [semAt_any hd, mkA_eval, hr, h1, Oper.uponIn_round]
  refine ⟨fun h => (by simp [Fw, Fence.wide] at h), RoundIn.mono (R := R) ?_ ?_⟩
  · exact h2
  · intro e w' hR
    obtain ⟨x, rfl, hx⟩ := hk e w' hR
    show wpListIn (Fw none) 0 P ops Q os ((mkA n s ds).put o.dst x) w'
    rw [hdst, mkA_put]; exact hx
theorem zip2 {α β : Type} (k k2 : α) (v v2 : β) : (#[k, k2].zip #[v, v2]) = #[(k, v), (k2, v2)] := by simp [Array.zip]
theorem foldl2 {α β : Type} (f : β → α → β) (b : β) (x y : α) : Array.foldl f b #[x, y] 0 (#[x, y] : Array α).size = f (f b x) y := by simp
theorem tm_put (n : Nat) (s : Nat → Value) (d : Nat) (v : Value) : (tmA n s).setIfInBounds d v = tmA n (updS s (some d) v) := congrArg Act.tmps (mkA_fold (ds := []) n s d v)
theorem oldB_put {w : World} {k : Nat} {o : Obj} : OldB [k] w (w.putObj k o) := ⟨rfl, rfl, rfl, by rw [World.putObj_size]; exact Nat.le_refl _, fun b _ hn => World.putObj_heap_other (by simpa using hn)⟩
end
end


end Go.Proofs.YtleknidlgmmgbaaGreat
