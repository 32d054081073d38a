/- Awake. -/
import Derived.Test.YtleknidlgmmgbaaGreattsW50
import Derived.Test.YtleknidlgmmgbaaGreattsW48
import Derived.Test.YtleknidlgmmgbaaGreattsW20
import Derived.Test.YtleknidlgmmgbaaGreattsW34
import Derived.Test.YtleknidlgmmgbaaGreattsW29
import Derived.Test.YtleknidlgmmgbaaGreattsCZ
set_option linter.all false
namespace Go.Proofs.YtleknidlgmmgbaaGreat
theorem hvE {v t : Value} {a b : Nat} (h : ∃ lo hi, a ≤ lo ∧ hi ≤ b ∧ v = t) : v = t := h.elim fun _ h => h.elim fun _ h => h.2.2

open Go.RowKit


theorem ite_of {p a b : Prop} [Decidable p] (hp : p) (h : a) : if p then a else b := by rw [if_pos hp]; exact h
def exR : St4 := runR exS exA 100
theorem exR_p : exR.printed = [6] := by decide +kernel
theorem exS_len : LenI exS := ⟨by decide +kernel, by decide +kernel, by decide +kernel⟩
abbrev exU : List Unt := [⟨1, tank3⟩]
abbrev e0 : Ent := ⟨1, 1, 10, tank3⟩
abbrev e1 : Ent := ⟨2, 1, 14, tank3⟩
abbrev e2 : Ent := ⟨3, 2, 12, tank3⟩
def exM : List Ent := [e0, e2, e1]
theorem first_exA (A : SA) (B c : Nat) (w : World) (hR : RdSt w exS A) (hF : RdFl w (some ⟨B, 0, none⟩) exA) :
    Calls Tryz.prog 16 #[.agg #[.slice A.sa exS.store.length A.sc, .slice A.ta exS.tape.length A.tc, .int .i64 exS.taken, .slice A.pa exS.printed.length A.pc, .int .i64 exS.time, .int .i64 exS.pc, .int .i64 exS.done, .int .i64 exS.why], .slice (some ⟨B, 0, none⟩) exA.length c, .int .i64 100] w (fun e w' => e = .returned (.tuple #[.int .i64 5, .agg #[.int .i64 10, .int .i64 2, .int .i64 5, .int .i64 14, .int .i64 0, .int .i64 74, .int .i64 96], .int .i64 0]) ∧ Below w.heap.size w w') :=
  tfirst12_v exS A _ c exA 100 5 0 ⟨10, ⟨2, 5, 14, 0⟩, 74, 96⟩ w hR exS_len (by decide) hF (by decide +kernel)
theorem first_exB (A : SA) (B c : Nat) (w : World) (hR : RdSt w exS A) (hF : RdFl w (some ⟨B, 0, none⟩) exB) :
    Calls Tryz.prog 16 #[.agg #[.slice A.sa exS.store.length A.sc, .slice A.ta exS.tape.length A.tc, .int .i64 exS.taken, .slice A.pa exS.printed.length A.pc, .int .i64 exS.time, .int .i64 exS.pc, .int .i64 exS.done, .int .i64 exS.why], .slice (some ⟨B, 0, none⟩) exB.length c, .int .i64 100] w (fun e w' => e = .returned (.tuple #[.int .i64 0, .agg #[.int .i64 0, .int .i64 0, .int .i64 0, .int .i64 0, .int .i64 0, .int .i64 0, .int .i64 0], .int .i64 9]) ∧ Below w.heap.size w w') :=
  tfirst12_v exS A _ c exB 100 0 9 Stp4.zero w hR exS_len (by decide) hF (by decide +kernel)
theorem half_ex0 (A : SA) (B c : Nat) (w : World) (hR : RdSt w exS A) (hF : RdFl w (some ⟨B, 0, none⟩) exA) :
    Calls Tryz.prog 30 #[.agg #[.slice A.sa exS.store.length A.sc, .slice A.ta exS.tape.length A.tc, .int .i64 exS.taken, .slice A.pa exS.printed.length A.pc, .int .i64 exS.time, .int .i64 exS.pc, .int .i64 exS.done, .int .i64 exS.why], .slice (some ⟨B, 0, none⟩) exA.length c, .int .i64 3, .int .i64 9, .bool false] w (fun e w' => ∃ a c, e = .returned (.tuple #[.slice a 0 c, .int .i64 0]) ∧ RdInts w' a [] ∧ (∀ b, a = some b → w.heap.size ≤ b.block) ∧ Below w.heap.size w w') :=
  thalf_v exS A _ c exA 3 9 0 false [] w hR exS_len (by decide) hF (by decide +kernel)
theorem half_ex1 (A : SA) (B c : Nat) (w : World) (hR : RdSt w exS A) (hF : RdFl w (some ⟨B, 0, none⟩) exA) :
    Calls Tryz.prog 30 #[.agg #[.slice A.sa exS.store.length A.sc, .slice A.ta exS.tape.length A.tc, .int .i64 exS.taken, .slice A.pa exS.printed.length A.pc, .int .i64 exS.time, .int .i64 exS.pc, .int .i64 exS.done, .int .i64 exS.why], .slice (some ⟨B, 0, none⟩) exA.length c, .int .i64 3, .int .i64 9, .bool true] w (fun e w' => ∃ a c, e = .returned (.tuple #[.slice a 1 c, .int .i64 0]) ∧ RdInts w' a [1] ∧ (∀ b, a = some b → w.heap.size ≤ b.block) ∧ Below w.heap.size w w') :=
  thalf_v exS A _ c exA 3 9 0 true [1] w hR exS_len (by decide) hF (by decide +kernel)
theorem exE_tail {B : Nat} {w : World} (h : RdEn w (some ⟨B, 0, none⟩) exE) : RdEn w (some ⟨B, 4, none⟩) [e1, e2] := by
  obtain ⟨b1, o1, h1, hb, c0, c1, c2, c3⟩ := RdEn.ne h (k := 1) (by decide); obtain ⟨b2, o2, h2, _, d0, d1, d2, d3⟩ := RdEn.ne h (k := 2) (by decide)
  cases h1; cases h2
  refine .inr ⟨B, 4, rfl, hb, fun i y hi j v hv => ?_⟩
  rcases i with _ | _ | i
  · simp at hi; subst hi
    rcases j with _ | _ | _ | _ | j <;> simp [Ent.cs] at hv <;> subst hv <;> simpa using (by first | exact c0 | exact c1 | exact c2 | exact c3)
  · simp at hi; subst hi
    rcases j with _ | _ | _ | _ | j <;> simp [Ent.cs] at hv <;> subst hv <;> simpa using (by first | exact d0 | exact d1 | exact d2 | exact d3)
  · simp at hi
theorem exE_small : ∀ y ∈ exE, y.unit.size ≤ 9223372036854775807 := by decide
theorem exT_small : ∀ y ∈ [e1, e2], y.unit.size ≤ 9223372036854775807 := by decide
theorem exE_l : exE.length ≤ 9223372036854775807 := by decide
theorem exT_l : [e1, e2].length ≤ 9223372036854775807 := by decide
theorem sus_ex (B c : Nat) (w : World) (hR : RdEn w (some ⟨B, 0, none⟩) exE) :
    Calls Tryz.prog 22 #[.slice (some ⟨B, 0, none⟩) exE.length c, .int .i64 5, .int .i64 2] w (fun e w' => ∃ a' c', e = .returned (.tuple #[.slice a' 1 c', .int .i64 0]) ∧ RdUn w' a' exU ∧ (∀ b, a' = some b → w.heap.size ≤ b.block) ∧ Below w.heap.size w w') :=
  suspects_v _ c exE 5 2 exU 0 w hR (by decide) exE_small (by decide +kernel)
theorem merge_ex (b : Nat) (a1 a2 : Option Addr) (c1 c2 : Nat) (w : World) (hR : Cells w b [.slice a1 3 c1, .slice a2 2 c2]) (h1 : RdEn w a1 exE) (h2 : RdEn w a2 [e1, e2]) :
    Calls Tryz.prog 19 #[.slice (some ⟨b, 0, none⟩) 2 2] w (fun e w' => ∃ a' c', e = .returned (.tuple #[.slice a' 3 c', .int .i64 0]) ∧ RdEn w' a' exM ∧ (∀ b, a' = some b → w.heap.size ≤ b.block) ∧ Below w.heap.size w w') :=
  merge_v (some ⟨b, 0, none⟩) 2 [⟨a1, c1, exE⟩, ⟨a2, c2, [e1, e2]⟩] exM 0 w (Cells.rd (f := SlE.cs) (m := 1) (l := [⟨a1, c1, exE⟩, ⟨a2, c2, [e1, e2]⟩]) (fun _ => rfl) hR) (fun x hx => by simp at hx; rcases hx with rfl | rfl; exact h1; exact h2) (by simp) (fun x hx => by simp at hx; rcases hx with rfl | rfl; exact exE_l; exact exT_l) (fun x hx => by simp at hx; rcases hx with rfl | rfl; exact exE_small; exact exT_small) (show mergeR [exE, [e1, e2]] = _ by decide +kernel)
theorem ints_eq (al : Option Addr) (cl : Nat) (l : List Int) (am : Option Addr) (cm : Nat) (m : List Int) (w : World) (hRl : RdInts w al l) (hRm : RdInts w am m) (hm : m.length ≤ 9223372036854775807) (h : l = m) :
    Calls Tryz.prog 29 #[.slice al l.length cl, .slice am m.length cm] w (fun e w' => e = .returned (.bool true) ∧ Below w.heap.size w w') := by
  have := rints_any al cl l am cm m w hRl hRm (by rw [h]; exact hm) hm; rwa [decide_eq_true h] at this
theorem units_eq (al : Option Addr) (cl : Nat) (l : List Unt) (am : Option Addr) (cm : Nat) (m : List Unt) (w : World) (hRl : RdUn w al l) (hRm : RdUn w am m) (hm : m.length ≤ 9223372036854775807) (h : l = m) :
    Calls Tryz.prog 24 #[.slice al l.length cl, .slice am m.length cm] w (fun e w' => e = .returned (.bool true) ∧ Below w.heap.size w w') := by
  have := runits_any al cl l am cm m w hRl hRm (by rw [h]; exact hm) hm; rwa [decide_eq_true h] at this
theorem ents_eq (al : Option Addr) (cl : Nat) (l : List Ent) (am : Option Addr) (cm : Nat) (m : List Ent) (w : World) (hRl : RdEn w al l) (hRm : RdEn w am m) (hm : m.length ≤ 9223372036854775807) (h : l = m) :
    Calls Tryz.prog 21 #[.slice al l.length cl, .slice am m.length cm] w (fun e w' => e = .returned (.bool true) ∧ Below w.heap.size w w') := by
  have := rents_any al cl l am cm m w hRl hRm (by rw [h]; exact hm) hm; rwa [decide_eq_true h] at this
/-- an element of the examples' entries lies there -/
def PtE (v : Value) (W : World) (x : Ent) : Prop := ∃ b o, v = .pointer (some ⟨b, o, none⟩) ∧ b < W.heap.size ∧ W.cell? ⟨b, o, none⟩ = some (.int .i64 x.num) ∧ W.cell? ⟨b, o + 1, none⟩ = some (.int .i64 x.mach) ∧ W.cell? ⟨b, o + 2, none⟩ = some (.int .i64 x.day) ∧ W.cell? ⟨b, o + 3, none⟩ = some (.string x.unit)
theorem PtE.at {v : Value} {W W' : World} {x : Ent} (h : PtE v W x) (hb : Below W.heap.size W W') : PtE v W' x := by
  obtain ⟨b, o, h1, h2, h3, h4, h5, h6⟩ := h; obtain ⟨e, _⟩ := bcell hb; exact ⟨b, o, h1, Nat.lt_of_lt_of_le h2 hb.size, (e _ _ h2).trans h3, (e _ _ h2).trans h4, (e _ _ h2).trans h5, (e _ _ h2).trans h6⟩

theorem XW51b {A : Prop} (e : A := by
 rintro sJ wJ hbJ hunJ hdJ
 have sv125 : sJ 125 = .bool true := hvE (hdJ 63 (by kernel_rfl) 125 rfl)
 refine ite_of (Eq.trans (wanted_F (b' := true) rfl rfl (by decide) sv125) rfl) ?_; unfold opF; go_simp; refine (lE_any _).mono ?_; rintro e wN ⟨B, rfl, hE, hB, hbN⟩; exact ⟨_, rfl, ⟨B, rfl, hE⟩, hbN⟩) : A := e
theorem XW51c {A B1 : Prop} (hX1 : B1) (e : B1 → A := by intro hX1; exact ite_of (Eq.trans (wanted_F (b' := true) rfl rfl (by decide) sv88) rfl) hX1) : A := e hX1
theorem XW51d {A : Prop} (e : A := by exact opV_slice (by intro K' hK; unfold opF; go_simp; exact hK)) : A := e
theorem XW51e {A B1 : Prop} (hX1 : B1) (e : B1 → A := by intro hX1; exact ite_of (Eq.trans (wanted_F (b' := true) rfl rfl (by decide) sv98) rfl) hX1) : A := e hX1
theorem XW51f {A B1 : Prop} (hX1 : B1) (e : B1 → A := by intro hX1; exact ite_of (Eq.trans (wanted_F (b' := true) rfl rfl (by decide) sv103) rfl) hX1) : A := e hX1
theorem XW51g {A B1 : Prop} (hX1 : B1) (e : B1 → A := by intro hX1; exact ite_of (Eq.trans (wanted_F (b' := true) rfl rfl (by decide) sv109) rfl) hX1) : A := e hX1
theorem XW51h {A B1 : Prop} (hX1 : B1) (e : B1 → A := by intro hX1; exact ite_of (Eq.trans (wanted_F (b' := true) rfl rfl (by decide) sv114) rfl) hX1) : A := e hX1
theorem XW51i {A B1 : Prop} (hX1 : B1) (e : B1 → A := by intro hX1; exact ite_of (Eq.trans (wanted_F (b' := true) rfl rfl (by decide) sv119) rfl) hX1) : A := e hX1
theorem XW51j {A B1 : Prop} (hX1 : B1) (e : B1 → A := by intro hX1; exact ite_of (Eq.trans (wanted_F (b' := true) rfl rfl (by decide) sv125) rfl) hX1) : A := e hX1
set_option maxRecDepth 100000 in
set_option maxHeartbeats 64000000 in
theorem awake_any (w : World) :
    Calls Tryz.prog 18 #[] w (fun e w' => e = .returned (.bool true) ∧ Below w.heap.size w w') := by
 refine enter_F Tryz.func18 rfl Tryz.ntmps18 (by simp) ?_
 intro s0 hs; clear hs; have HB := hid (OldB.refl [] w)
 refine nr ?_; intros; refine pl ?_; refine lx [] ?_; intro s1; refine lr ?_; intros; refine listF_step rfl (fun K' hK => ?_); unfold opF; go_simp; refine (lS_any _).mono ?_; rintro e w2 ⟨A18, rfl, hS18, hb3⟩; refine ⟨_, rfl, hK _ _ ?_⟩; clear hK K'; replace HB := bE HB hb3; clear hb3; refine listF_step rfl (fun K' hK => ?_); unfold opF; go_simp; refine (lA_any _).mono ?_; rintro e w4 ⟨B19, rfl, hF19, hB19, hb5⟩; refine ⟨_, rfl, hK _ _ ?_⟩; clear hK K'; replace hS18 := RdSt.at hS18 hb5; replace HB := bE HB hb5; clear hb5; refine listF_step rfl (fun K' hK => ?_); unfold opF; go_simp; refine (tRun_v exS A18 (some ⟨B19, 0, none⟩) 1 exA 100 0 exR _ hS18 exS_len (by decide) hF19 (by decide +kernel) rfl).mono ?_; rintro e w6 ⟨A20, rfl, hP20', hb7⟩; have hP20 := hP20'.pr; have Hf := hid (show ∀ b, A20.pa = some b → b.block < w6.heap.size from fun b hb => by have h9 := exR_p; rcases hP20 with h | ⟨b1, o1, h1, h2, _⟩; rw [h] at h9; simp at h9; rw [h1] at hb; cases hb; exact h2)
 clear hP20'; refine ⟨_, rfl, hK _ _ ?_⟩; clear hK K'; replace hS18 := RdSt.at hS18 hb7; replace hF19 := Rd.at hF19 hb7; replace HB := bE HB hb7; clear hb7; clear hS18 hF19; have HL9 := hid (OldB.refl [] w6)
 refine P3 ?_
 refine pa (fun w8 B1 hB kb1 hb9 => ?_); have gb1 := HB.out.gB hB; have lHL9_b1 := HL9.out.gB hB; have eb1 := eB hB; clear hB; replace hP20 := Rd.at hP20 hb9; revert HB; revert HL9; refine zA hb9 ?_; clear hb9; intro HL9 HB; have qb1 := kb1.1; have cb1 := clx kb1; have zb1 := kb1.2.2; refine pl ?_; refine sto kb1 ?_; clear kb1 cb1 zb1; intro w10 kb1 hb11; clear qb1; replace hP20 := Rd.oldB hP20 hb11 (fun b hb => by have := Hf.out b hb; first | (simp; done) | (simp; omega)); revert HB; revert HL9; refine zO hb11 ?_; clear hb11; intro HL9 HB; have qb1 := kb1.1; refine pl ?_; refine lx [1,2] ?_; intro s12 sl1 sl2; refine lr ?_; intros; refine listF_step rfl (fun K' hK => ?_); unfold opF; go_simp; refine (lS_any _).mono ?_; rintro e w13 ⟨A24, rfl, hS24, hb14⟩; refine ⟨_, rfl, hK _ _ ?_⟩; clear hK K'; clear qb1; replace hP20 := Rd.at hP20 hb14; revert HB; revert HL9; revert kb1; refine uA hb14 ?_; clear hb14; intro kb1 qb1 HL9 HB; refine listF_step rfl (fun K' hK => ?_); unfold opF; go_simp; refine (lA_any _).mono ?_; rintro e w15 ⟨B25, rfl, hF25, hB25, hb16⟩; refine ⟨_, rfl, hK _ _ ?_⟩; clear hK K'; clear qb1; replace hP20 := Rd.at hP20 hb16; replace hS24 := RdSt.at hS24 hb16; revert HB; revert HL9; revert kb1; refine uA hb16 ?_; clear hb16; intro kb1 qb1 HL9 HB; refine listF_step rfl (fun K' hK => ?_); unfold opF; go_simp; refine (first_exA A24 B25 1 _ hS24 hF25).mono ?_; rintro e w17 ⟨rfl, hb18⟩; refine ⟨_, rfl, hK _ _ ?_⟩; clear hK K'; clear qb1; replace hP20 := Rd.at hP20 hb18; replace hS24 := RdSt.at hS24 hb18; replace hF25 := Rd.at hF25 hb18; revert HB; revert HL9; revert kb1; refine uA hb18 ?_; clear hb18; intro kb1 qb1 HL9 HB; clear hS24 hF25
 refine P4 ?_
 refine pa (fun w19 B4 hB kb4 hb20 => ?_); have gb4 := HB.out.gB hB; have lHL9_b4 := HL9.out.gB hB; have ob1_b4 := oB qb1 hB; have eb4 := eB hB; clear hB; clear qb1; replace hP20 := Rd.at hP20 hb20; revert HB; revert HL9; revert kb1; refine uA hb20 ?_; clear hb20; intro kb1 qb1 HL9 HB; have qb4 := kb4.1; refine pl ?_; have cb4 := clx kb4; have zb4 := kb4.2.2; refine pl ?_; refine sto kb4 ?_; clear kb4 cb4 zb4; intro w21 kb4 hb22; clear qb1 qb4; replace hP20 := Rd.oldB hP20 hb22 (fun b hb => by have := Hf.out b hb; first | (simp; done) | (simp; omega)); revert HB; revert HL9; revert kb1; refine uO hb22 ?_; clear hb22; intro kb1 qb1 HL9 HB; have qb4 := kb4.1; refine pl ?_; refine lx [3,4,5] ?_; clear sl1 sl2; intro s23 sl1 sl2 sl3 sl4 sl5; refine lr ?_; intros; refine listF_step rfl (fun K' hK => ?_); unfold opF; go_simp; refine (lS_any _).mono ?_; rintro e w24 ⟨A31, rfl, hS31, hb25⟩; refine ⟨_, rfl, hK _ _ ?_⟩; clear hK K'; clear qb1 qb4; replace hP20 := Rd.at hP20 hb25; revert HB; revert HL9; revert kb4; revert kb1; refine uA hb25 ?_; clear hb25; intro kb1 qb1 kb4 qb4 HL9 HB; refine listF_step rfl (fun K' hK => ?_); unfold opF; go_simp; refine (lB_any _).mono ?_; rintro e w26 ⟨B32, rfl, hF32, hB32, hb27⟩; refine ⟨_, rfl, hK _ _ ?_⟩; clear hK K'; clear qb1 qb4; replace hP20 := Rd.at hP20 hb27; replace hS31 := RdSt.at hS31 hb27; revert HB; revert HL9; revert kb4; revert kb1; refine uA hb27 ?_; clear hb27; intro kb1 qb1 kb4 qb4 HL9 HB; refine listF_step rfl (fun K' hK => ?_); unfold opF; go_simp; refine (first_exB A31 B32 1 _ hS31 hF32).mono ?_; rintro e w28 ⟨rfl, hb29⟩
 refine ⟨_, rfl, hK _ _ ?_⟩; clear hK K'; clear qb1 qb4; replace hP20 := Rd.at hP20 hb29; replace hS31 := RdSt.at hS31 hb29; replace hF32 := Rd.at hF32 hb29; revert HB; revert HL9; revert kb4; revert kb1; refine uA hb29 ?_; clear hb29; intro kb1 qb1 kb4 qb4 HL9 HB; clear hS31 hF32
 refine P4 ?_
 refine pa (fun w30 B7 hB kb7 hb31 => ?_); have gb7 := HB.out.gB hB; have lHL9_b7 := HL9.out.gB hB; have ob1_b7 := oB qb1 hB; have ob4_b7 := oB qb4 hB; have eb7 := eB hB; clear hB; clear qb1 qb4; replace hP20 := Rd.at hP20 hb31; revert HB; revert HL9; revert kb4; revert kb1; refine uA hb31 ?_; clear hb31; intro kb1 qb1 kb4 qb4 HL9 HB; have qb7 := kb7.1; refine pl ?_; have cb7 := clx kb7; have zb7 := kb7.2.2; refine pl ?_; refine sto kb7 ?_; clear kb7 cb7 zb7; intro w32 kb7 hb33; clear qb1 qb4 qb7; replace hP20 := Rd.oldB hP20 hb33 (fun b hb => by have := Hf.out b hb; first | (simp; done) | (simp; omega)); revert HB; revert HL9; revert kb4; revert kb1; refine uO hb33 ?_; clear hb33; intro kb1 qb1 kb4 qb4 HL9 HB; have qb7 := kb7.1; refine pl ?_; refine lx [8] ?_; clear sl1 sl2 sl3 sl4 sl5; intro s34 sl1 sl2 sl3 sl4 sl5 sl8; refine lr ?_; intros; refine listF_step rfl (fun K' hK => ?_); unfold opF; go_simp; refine (lS_any _).mono ?_; rintro e w35 ⟨A38, rfl, hS38, hb36⟩; refine ⟨_, rfl, hK _ _ ?_⟩; clear hK K'; clear qb1 qb4 qb7; replace hP20 := Rd.at hP20 hb36; revert HB; revert HL9; revert kb7; revert kb4; revert kb1; refine uA hb36 ?_; clear hb36; intro kb1 qb1 kb4 qb4 kb7 qb7 HL9 HB; refine listF_step rfl (fun K' hK => ?_); unfold opF; go_simp; refine (lA_any _).mono ?_; rintro e w37 ⟨B39, rfl, hF39, hB39, hb38⟩; refine ⟨_, rfl, hK _ _ ?_⟩; clear hK K'; clear qb1 qb4 qb7; replace hP20 := Rd.at hP20 hb38; replace hS38 := RdSt.at hS38 hb38; revert HB; revert HL9; revert kb7; revert kb4; revert kb1; refine uA hb38 ?_; clear hb38; intro kb1 qb1 kb4 qb4 kb7 qb7 HL9 HB
 refine cal (half_ex0 A38 B39 1 _ hS38 hF39) ?_; rintro e w39 ⟨a40, c40, rfl, -, -, hb40⟩; refine ⟨_, rfl, ?_⟩; clear qb1 qb4 qb7; replace hP20 := Rd.at hP20 hb40; replace hS38 := RdSt.at hS38 hb40; replace hF39 := Rd.at hF39 hb40; revert HB; revert HL9; revert kb7; revert kb4; revert kb1; refine uA hb40 ?_; clear hb40; intro kb1 qb1 kb4 qb4 kb7 qb7 HL9 HB; clear hS38 hF39
 refine P5 ?_
 refine lx [9,10] ?_; clear sl1 sl2 sl3 sl4 sl5 sl8; intro s41 sl1 sl2 sl3 sl4 sl5 sl8 sl9 sl10; refine lr ?_; intros; refine listF_step rfl (fun K' hK => ?_); unfold opF; go_simp; refine (lS_any _).mono ?_; rintro e w42 ⟨A44, rfl, hS44, hb43⟩; refine ⟨_, rfl, hK _ _ ?_⟩; clear hK K'; clear qb1 qb4 qb7; replace hP20 := Rd.at hP20 hb43; revert HB; revert HL9; revert kb7; revert kb4; revert kb1; refine uA hb43 ?_; clear hb43; intro kb1 qb1 kb4 qb4 kb7 qb7 HL9 HB; refine listF_step rfl (fun K' hK => ?_); unfold opF; go_simp; refine (lA_any _).mono ?_; rintro e w44 ⟨B45, rfl, hF45, hB45, hb45⟩; refine ⟨_, rfl, hK _ _ ?_⟩; clear hK K'; clear qb1 qb4 qb7; replace hP20 := Rd.at hP20 hb45; replace hS44 := RdSt.at hS44 hb45; revert HB; revert HL9; revert kb7; revert kb4; revert kb1; refine uA hb45 ?_; clear hb45; intro kb1 qb1 kb4 qb4 kb7 qb7 HL9 HB
 refine cal (half_ex1 A44 B45 1 _ hS44 hF45) ?_; rintro e w46 ⟨a46, c46, rfl, h46, -, hb47⟩; refine ⟨_, rfl, ?_⟩; clear qb1 qb4 qb7; replace hP20 := Rd.at hP20 hb47; replace hS44 := RdSt.at hS44 hb47; replace hF45 := Rd.at hF45 hb47; revert HB; revert HL9; revert kb7; revert kb4; revert kb1; refine uA hb47 ?_; clear hb47; intro kb1 qb1 kb4 qb4 kb7 qb7 HL9 HB; clear hS44 hF45
 refine P5 ?_
 refine lx [11,12] ?_; clear sl1 sl2 sl3 sl4 sl5 sl8 sl9 sl10; intro s48 sl1 sl2 sl3 sl4 sl5 sl8 sl9 sl10 sl11 sl12; refine lr ?_; intros; refine listF_step rfl (fun K' hK => ?_); unfold opF; go_simp; refine (lE_any _).mono ?_; rintro e w49 ⟨B50, rfl, hE50, hB50, hb50⟩; refine ⟨_, rfl, hK _ _ ?_⟩; clear hK K'; clear qb1 qb4 qb7; replace hP20 := Rd.at hP20 hb50; replace h46 := Rd.at h46 hb50; revert HB; revert HL9; revert kb7; revert kb4; revert kb1; refine uA hb50 ?_; clear hb50; intro kb1 qb1 kb4 qb4 kb7 qb7 HL9 HB; refine listF_step rfl (fun K' hK => ?_); unfold opF; go_simp; refine (sus_ex B50 3 _ hE50).mono ?_; rintro e w51 ⟨a51, c51, rfl, h51, -, hb52⟩; refine ⟨_, rfl, hK _ _ ?_⟩; clear hK K'; clear qb1 qb4 qb7; replace hP20 := Rd.at hP20 hb52; replace h46 := Rd.at h46 hb52; replace hE50 := Rd.at hE50 hb52; revert HB; revert HL9; revert kb7; revert kb4; revert kb1; refine uA hb52 ?_; clear hb52; intro kb1 qb1 kb4 qb4 kb7 qb7 HL9 HB; clear hE50
 refine P5 ?_
 refine lx [13,14] ?_; clear sl1 sl2 sl3 sl4 sl5 sl8 sl9 sl10 sl11 sl12; intro s53 sl1 sl2 sl3 sl4 sl5 sl8 sl9 sl10 sl11 sl12 sl13 sl14; refine lr ?_; intros; refine listF_step rfl (fun K' hK => ?_); unfold opF; go_simp; refine (lE_any _).mono ?_; rintro e w54 ⟨B55, rfl, hE55, hB55, hb55⟩; refine ⟨_, rfl, hK _ _ ?_⟩; clear hK K'; clear qb1 qb4 qb7; replace hP20 := Rd.at hP20 hb55; replace h46 := Rd.at h46 hb55; replace h51 := Rd.at h51 hb55; revert HB; revert HL9; revert kb7; revert kb4; revert kb1; refine uA hb55 ?_; clear hb55; intro kb1 qb1 kb4 qb4 kb7 qb7 HL9 HB; refine listF_step rfl (fun K' hK => ?_); unfold opF; go_simp; refine (lE_any _).mono ?_; rintro e w56 ⟨B56, rfl, hE56, hB56, hb57⟩; refine ⟨_, rfl, hK _ _ ?_⟩; clear hK K'; clear qb1 qb4 qb7; replace hP20 := Rd.at hP20 hb57; replace h46 := Rd.at h46 hb57; replace h51 := Rd.at h51 hb57; replace hE55 := Rd.at hE55 hb57; revert HB; revert HL9; revert kb7; revert kb4; revert kb1; refine uA hb57 ?_; clear hb57; intro kb1 qb1 kb4 qb4 kb7 qb7 HL9 HB; refine pl ?_; refine pas (fun w58 B58 hB kb58 hb59 => ?_); have gb58 := HB.out.gB hB; have lHL9_b58 := HL9.out.gB hB; have ob1_b58 := oB qb1 hB; have ob4_b58 := oB qb4 hB; have ob7_b58 := oB qb7 hB; have eb58 := eB hB; clear hB; clear qb1 qb4 qb7; replace hP20 := Rd.at hP20 hb59; replace h46 := Rd.at h46 hb59; replace h51 := Rd.at h51 hb59; replace hE55 := Rd.at hE55 hb59; replace hE56 := Rd.at hE56 hb59; revert HB; revert HL9; revert kb7; revert kb4; revert kb1; refine uA hb59 ?_; clear hb59; intro kb1 qb1 kb4 qb4 kb7 qb7 HL9 HB; have qb58 := kb58.1; have hEt : RdEn w58 (some ⟨B56, 4, none⟩) [e1, e2] := exE_tail hE56; clear hE56; refine cal (merge_ex B58 (some ⟨B55, 0, none⟩) (some ⟨B56, 4, none⟩) 3 2 _ kb58 hE55 hEt) ?_; rintro e w60 ⟨a59, c59, rfl, h59, -, hb61⟩
 refine ⟨_, rfl, ?_⟩; clear qb1 qb4 qb7 qb58; replace hP20 := Rd.at hP20 hb61; replace h46 := Rd.at h46 hb61; replace h51 := Rd.at h51 hb61; replace hE55 := Rd.at hE55 hb61; replace hEt := Rd.at hEt hb61; revert HB; revert HL9; revert kb58; revert kb7; revert kb4; revert kb1; refine uA hb61 ?_; clear hb61; intro kb1 qb1 kb4 qb4 kb7 qb7 kb58 qb58 HL9 HB; clear hE55 hEt
 refine P5 ?_
 refine lx [15,16] ?_; clear sl1 sl2 sl3 sl4 sl5 sl8 sl9 sl10 sl11 sl12 sl13 sl14; intro s62 sl1 sl2 sl3 sl4 sl5 sl8 sl9 sl10 sl11 sl12 sl13 sl14 sl15 sl16; refine ln ?_; intros
 refine regV 78 ((fun v _ _ _ => v = .int .i64 0 : PrV) :: (fun v _ _ _ => v = .bool true : PrV) :: (fun v _ _ _ => v = .bool true : PrV) :: (fun v _ _ _ => v = .int .i64 0 : PrV) :: (fun v _ _ _ => v = .bool true : PrV) :: (fun v _ _ _ => v = .bool true : PrV) :: (fun v _ _ _ => v = .bool true : PrV) :: (fun v _ _ _ => v = .int .i64 9 : PrV) :: (fun v _ _ _ => v = .bool true : PrV) :: (fun v _ _ _ => v = .bool true : PrV) :: (fun v _ _ _ => v = .bool true : PrV) :: (fun v _ _ _ => v = .int .i64 0 : PrV) :: (fun v _ _ _ => v = .bool true : PrV) :: (fun v _ _ _ => v = .bool true : PrV) :: (fun v _ _ _ => v = .bool true : PrV) :: (fun v _ _ _ => v = .int .i64 0 : PrV) :: (fun v _ _ _ => v = .bool true : PrV) :: (fun v _ _ _ => v = .bool true : PrV) :: (fun v _ _ _ => v = .bool true : PrV) :: (fun v _ _ _ => v = .int .i64 0 : PrV) :: (fun v _ _ _ => v = .bool true : PrV) :: (fun v _ _ _ => v = .bool true : PrV) :: (fun v _ _ _ => v = .bool true : PrV) :: (fun v _ _ _ => v = .int .i64 0 : PrV) :: (fun v _ _ _ => v = .bool true : PrV) :: (fun v _ _ _ => v = .bool true : PrV) :: (fun v _ _ _ => v = .bool true : PrV) :: (fun v _ _ _ => v = .pointer (some ⟨B1, 3, none⟩) : PrV) :: (fun v _ _ _ => v = Value.slice A20.pa exR.printed.length A20.pc : PrV) :: (fun v a b W => ∃ B, v = .slice (some ⟨B, 0, none⟩) 1 1 ∧ a ≤ B ∧ B < b ∧ Cells W B [.int .i64 6] : PrV) :: (fun v _ _ _ => v = .bool true : PrV) :: (fun v _ _ _ => v = .bool true : PrV) :: (fun v _ _ _ => v = .bool true : PrV) :: (fun v _ _ _ => v = .int .i64 5 : PrV) :: (fun v _ _ _ => v = .bool true : PrV) :: (fun v _ _ _ => v = .bool true : PrV) :: (fun v _ _ _ => v = .bool true : PrV) :: (fun v _ _ _ => v = .pointer (some ⟨B4, 0, none⟩) : PrV) :: (fun v _ _ _ => v = .int .i64 10 : PrV) :: (fun v _ _ _ => v = .bool true : PrV) :: (fun v _ _ _ => v = .bool true : PrV) :: (fun v _ _ _ => v = .bool true : PrV) :: (fun v _ _ _ => v = .pointer (some ⟨B4, 1, none⟩) : PrV) :: (fun v _ _ _ => v = .agg #[.int .i64 2, .int .i64 5, .int .i64 14, .int .i64 0] : PrV) :: (fun v _ _ _ => v = .agg #[.int .i64 2, .int .i64 5, .int .i64 14, .int .i64 0] : PrV) :: (fun v _ _ _ => v = .bool true : PrV) :: (fun v _ _ _ => v = .bool true : PrV) :: (fun v _ _ _ => v = .bool true : PrV) :: (fun v _ _ _ => v = .slice a40 0 c40 : PrV) :: (fun v _ _ _ => v = .int .i64 0 : PrV) :: (fun v _ _ _ => v = .bool true : PrV) :: (fun v _ _ _ => v = .bool true : PrV) :: (fun v _ _ _ => v = .bool true : PrV) :: (fun v _ _ _ => v = .slice a46 1 c46 : PrV) :: (fun v a b W => ∃ B, v = .slice (some ⟨B, 0, none⟩) 1 1 ∧ a ≤ B ∧ B < b ∧ Cells W B [.int .i64 1] : PrV) :: (fun v _ _ _ => v = .bool true : PrV) :: (fun v _ _ _ => v = .bool true : PrV) :: (fun v _ _ _ => v = .bool true : PrV) :: (fun v _ _ _ => v = .slice a51 1 c51 : PrV) :: (fun v _ _ _ => v = .agg #[.int .i64 1, .string tank3] : PrV) :: (fun v a b W => ∃ B, v = .slice (some ⟨B, 0, none⟩) 1 1 ∧ a ≤ B ∧ B < b ∧ Cells W B [.int .i64 1, .string tank3] : PrV) :: (fun v _ _ _ => v = .bool true : PrV) :: (fun v _ _ _ => v = .bool true : PrV) :: (fun v _ _ _ => v = .bool true : PrV) :: (fun v _ _ _ => v = .slice a59 3 c59 : PrV) :: (fun v a b W => ∃ B, v = .slice (some ⟨B, 0, none⟩) 3 3 ∧ RdEn W (some ⟨B, 0, none⟩) exE : PrV) :: (fun v a b W => PtE v W e0 : PrV) :: (fun v _ _ _ => v = .agg #[.int .i64 e0.num, .int .i64 e0.mach, .int .i64 e0.day, .string e0.unit] : PrV) :: (fun v a b W => ∃ B, v = .slice (some ⟨B, 0, none⟩) 3 3 ∧ RdEn W (some ⟨B, 0, none⟩) exE : PrV) :: (fun v a b W => PtE v W e2 : PrV) :: (fun v _ _ _ => v = .agg #[.int .i64 e2.num, .int .i64 e2.mach, .int .i64 e2.day, .string e2.unit] : PrV) :: (fun v a b W => ∃ B, v = .slice (some ⟨B, 0, none⟩) 3 3 ∧ RdEn W (some ⟨B, 0, none⟩) exE : PrV) :: (fun v a b W => PtE v W e1 : PrV) :: (fun v _ _ _ => v = .agg #[.int .i64 e1.num, .int .i64 e1.mach, .int .i64 e1.day, .string e1.unit] : PrV) :: (fun v a b W => ∃ B, v = .slice (some ⟨B, 0, none⟩) 3 3 ∧ a ≤ B ∧ B < b ∧ Cells W B [.int .i64 e0.num, .int .i64 e0.mach, .int .i64 e0.day, .string e0.unit, .int .i64 e2.num, .int .i64 e2.mach, .int .i64 e2.day, .string e2.unit, .int .i64 e1.num, .int .i64 e1.mach, .int .i64 e1.day, .string e1.unit] : PrV) :: (fun v _ _ _ => v = .bool true : PrV) :: (fun v _ _ _ => v = .bool true : PrV) :: (fun v _ _ _ => v = .bool true : PrV) :: []) (by kernel_rfl) (by kernel_rfl) (by kernel_rfl) (by kernel_rfl) ⟨fun _ _ _ _ _ h _ => h, fun _ _ _ _ _ h _ => h, fun _ _ _ _ _ h _ => h, fun _ _ _ _ _ h _ => h, fun _ _ _ _ _ h _ => h, fun _ _ _ _ _ h _ => h, fun _ _ _ _ _ h _ => h, fun _ _ _ _ _ h _ => h, fun _ _ _ _ _ h _ => h, fun _ _ _ _ _ h _ => h, fun _ _ _ _ _ h _ => h, fun _ _ _ _ _ h _ => h, fun _ _ _ _ _ h _ => h, fun _ _ _ _ _ h _ => h, fun _ _ _ _ _ h _ => h, fun _ _ _ _ _ h _ => h, fun _ _ _ _ _ h _ => h, fun _ _ _ _ _ h _ => h, fun _ _ _ _ _ h _ => h, fun _ _ _ _ _ h _ => h, fun _ _ _ _ _ h _ => h, fun _ _ _ _ _ h _ => h, fun _ _ _ _ _ h _ => h, fun _ _ _ _ _ h _ => h, fun _ _ _ _ _ h _ => h, fun _ _ _ _ _ h _ => h, fun _ _ _ _ _ h _ => h, fun _ _ _ _ _ h _ => h, fun _ _ _ _ _ h _ => h, fun _ _ _ _ _ ⟨B, h1, h2, h3, h4⟩ hb => ⟨B, h1, h2, h3, h4.at hb⟩, fun _ _ _ _ _ h _ => h, fun _ _ _ _ _ h _ => h, fun _ _ _ _ _ h _ => h, fun _ _ _ _ _ h _ => h, fun _ _ _ _ _ h _ => h, fun _ _ _ _ _ h _ => h, fun _ _ _ _ _ h _ => h, fun _ _ _ _ _ h _ => h, fun _ _ _ _ _ h _ => h, fun _ _ _ _ _ h _ => h, fun _ _ _ _ _ h _ => h, fun _ _ _ _ _ h _ => h, fun _ _ _ _ _ h _ => h, fun _ _ _ _ _ h _ => h, fun _ _ _ _ _ h _ => h, fun _ _ _ _ _ h _ => h, fun _ _ _ _ _ h _ => h, fun _ _ _ _ _ h _ => h, fun _ _ _ _ _ h _ => h, fun _ _ _ _ _ h _ => h, fun _ _ _ _ _ h _ => h, fun _ _ _ _ _ h _ => h, fun _ _ _ _ _ h _ => h, fun _ _ _ _ _ h _ => h, fun _ _ _ _ _ ⟨B, h1, h2, h3, h4⟩ hb => ⟨B, h1, h2, h3, h4.at hb⟩, fun _ _ _ _ _ h _ => h, fun _ _ _ _ _ h _ => h, fun _ _ _ _ _ h _ => h, fun _ _ _ _ _ h _ => h, fun _ _ _ _ _ h _ => h, fun _ _ _ _ _ ⟨B, h1, h2, h3, h4⟩ hb => ⟨B, h1, h2, h3, h4.at hb⟩, fun _ _ _ _ _ h _ => h, fun _ _ _ _ _ h _ => h, fun _ _ _ _ _ h _ => h, fun _ _ _ _ _ h _ => h, fun _ _ _ _ _ ⟨B, h1, h2⟩ hb => ⟨B, h1, Rd.at h2 hb⟩, fun _ _ _ _ _ h hb => h.at hb, fun _ _ _ _ _ h _ => h, fun _ _ _ _ _ ⟨B, h1, h2⟩ hb => ⟨B, h1, Rd.at h2 hb⟩, fun _ _ _ _ _ h hb => h.at hb, fun _ _ _ _ _ h _ => h, fun _ _ _ _ _ ⟨B, h1, h2⟩ hb => ⟨B, h1, Rd.at h2 hb⟩, fun _ _ _ _ _ h hb => h.at hb, fun _ _ _ _ _ h _ => h, fun _ _ _ _ _ ⟨B, h1, h2, h3, h4⟩ hb => ⟨B, h1, h2, h3, h4.at hb⟩, fun _ _ _ _ _ h _ => h, fun _ _ _ _ _ h _ => h, fun _ _ _ _ _ h _ => h, trivial⟩ ⟨?_, ?_, ?_, ?_, ?_, ?_, ?_, ?_, ?_, ?_, ?_, ?_, ?_, ?_, ?_, ?_, ?_, ?_, ?_, ?_, ?_, ?_, ?_, ?_, ?_, ?_, ?_, ?_, ?_, ?_, ?_, ?_, ?_, ?_, ?_, ?_, ?_, ?_, ?_, ?_, ?_, ?_, ?_, ?_, ?_, ?_, ?_, ?_, ?_, ?_, ?_, ?_, ?_, ?_, ?_, ?_, ?_, ?_, ?_, ?_, ?_, ?_, ?_, ?_, ?_, ?_, ?_, ?_, ?_, ?_, ?_, ?_, ?_, ?_, ?_, ?_, ?_, ?_, trivial⟩ ?_
 · rintro sJ wJ hbJ hunJ hdJ
   have sv2 := (hunJ 2 (by decide) (un_of (by kernel_rfl))).trans sl2; rw [if_pos (by rfl)]; exact oV
 · rintro sJ wJ hbJ hunJ hdJ
   have sv62 : sJ 62 = .int .i64 0 := hvE (hdJ 0 (by kernel_rfl) 62 rfl)
   rw [if_pos (by rfl)]; exact oV
 · rintro sJ wJ hbJ hunJ hdJ
   have sv63 : sJ 63 = .bool true := hvE (hdJ 1 (by kernel_rfl) 63 rfl)
   rw [if_pos (by rfl)]; exact oV
 · rintro sJ wJ hbJ hunJ hdJ
   have sv5 := (hunJ 5 (by decide) (un_of (by kernel_rfl))).trans sl5
   have sv64 : sJ 64 = .bool true := hvE (hdJ 2 (by kernel_rfl) 64 rfl)
   refine ite_of (Eq.trans (wanted_F (b' := true) rfl rfl (by decide) sv64) rfl) ?_; exact oV
 · rintro sJ wJ hbJ hunJ hdJ
   have sv65 : sJ 65 = .int .i64 0 := hvE (hdJ 3 (by kernel_rfl) 65 rfl)
   have sv64 : sJ 64 = .bool true := hvE (hdJ 2 (by kernel_rfl) 64 rfl)
   refine ite_of (Eq.trans (wanted_F (b' := true) rfl rfl (by decide) sv64) rfl) ?_; exact oV
 · rintro sJ wJ hbJ hunJ hdJ
   have sv64 : sJ 64 = .bool true := hvE (hdJ 2 (by kernel_rfl) 64 rfl)
   have sv66 : sJ 66 = .bool true := hvE (hdJ 4 (by kernel_rfl) 66 rfl)
   rw [if_pos (by rfl)]; exact oV
 · rintro sJ wJ hbJ hunJ hdJ
   have sv67 : sJ 67 = .bool true := hvE (hdJ 5 (by kernel_rfl) 67 rfl)
   rw [if_pos (by rfl)]; exact oV
 · rintro sJ wJ hbJ hunJ hdJ
   have sv8 := (hunJ 8 (by decide) (un_of (by kernel_rfl))).trans sl8
   have sv68 : sJ 68 = .bool true := hvE (hdJ 6 (by kernel_rfl) 68 rfl)
   refine ite_of (Eq.trans (wanted_F (b' := true) rfl rfl (by decide) sv68) rfl) ?_; exact oV
 · rintro sJ wJ hbJ hunJ hdJ
   have sv69 : sJ 69 = .int .i64 9 := hvE (hdJ 7 (by kernel_rfl) 69 rfl)
   have sv68 : sJ 68 = .bool true := hvE (hdJ 6 (by kernel_rfl) 68 rfl)
   refine ite_of (Eq.trans (wanted_F (b' := true) rfl rfl (by decide) sv68) rfl) ?_; exact oV
 · rintro sJ wJ hbJ hunJ hdJ
   have sv68 : sJ 68 = .bool true := hvE (hdJ 6 (by kernel_rfl) 68 rfl)
   have sv70 : sJ 70 = .bool true := hvE (hdJ 8 (by kernel_rfl) 70 rfl)
   rw [if_pos (by rfl)]; exact oV
 · rintro sJ wJ hbJ hunJ hdJ
   have sv71 : sJ 71 = .bool true := hvE (hdJ 9 (by kernel_rfl) 71 rfl)
   rw [if_pos (by rfl)]; exact oV
 · rintro sJ wJ hbJ hunJ hdJ
   have sv10 := (hunJ 10 (by decide) (un_of (by kernel_rfl))).trans sl10
   have sv72 : sJ 72 = .bool true := hvE (hdJ 10 (by kernel_rfl) 72 rfl)
   refine ite_of (Eq.trans (wanted_F (b' := true) rfl rfl (by decide) sv72) rfl) ?_; exact oV
 · rintro sJ wJ hbJ hunJ hdJ
   have sv73 : sJ 73 = .int .i64 0 := hvE (hdJ 11 (by kernel_rfl) 73 rfl)
   have sv72 : sJ 72 = .bool true := hvE (hdJ 10 (by kernel_rfl) 72 rfl)
   refine ite_of (Eq.trans (wanted_F (b' := true) rfl rfl (by decide) sv72) rfl) ?_; exact oV
 · rintro sJ wJ hbJ hunJ hdJ
   have sv72 : sJ 72 = .bool true := hvE (hdJ 10 (by kernel_rfl) 72 rfl)
   have sv74 : sJ 74 = .bool true := hvE (hdJ 12 (by kernel_rfl) 74 rfl)
   rw [if_pos (by rfl)]; exact oV
 · rintro sJ wJ hbJ hunJ hdJ
   have sv75 : sJ 75 = .bool true := hvE (hdJ 13 (by kernel_rfl) 75 rfl)
   rw [if_pos (by rfl)]; exact oV
 · rintro sJ wJ hbJ hunJ hdJ
   have sv12 := (hunJ 12 (by decide) (un_of (by kernel_rfl))).trans sl12
   have sv76 : sJ 76 = .bool true := hvE (hdJ 14 (by kernel_rfl) 76 rfl)
   refine ite_of (Eq.trans (wanted_F (b' := true) rfl rfl (by decide) sv76) rfl) ?_; exact oV
 · rintro sJ wJ hbJ hunJ hdJ
   have sv77 : sJ 77 = .int .i64 0 := hvE (hdJ 15 (by kernel_rfl) 77 rfl)
   have sv76 : sJ 76 = .bool true := hvE (hdJ 14 (by kernel_rfl) 76 rfl)
   refine ite_of (Eq.trans (wanted_F (b' := true) rfl rfl (by decide) sv76) rfl) ?_; exact oV
 · rintro sJ wJ hbJ hunJ hdJ
   have sv76 : sJ 76 = .bool true := hvE (hdJ 14 (by kernel_rfl) 76 rfl)
   have sv78 : sJ 78 = .bool true := hvE (hdJ 16 (by kernel_rfl) 78 rfl)
   rw [if_pos (by rfl)]; exact oV
 · rintro sJ wJ hbJ hunJ hdJ
   have sv79 : sJ 79 = .bool true := hvE (hdJ 17 (by kernel_rfl) 79 rfl)
   rw [if_pos (by rfl)]; exact oV
 · rintro sJ wJ hbJ hunJ hdJ
   have sv14 := (hunJ 14 (by decide) (un_of (by kernel_rfl))).trans sl14
   have sv80 : sJ 80 = .bool true := hvE (hdJ 18 (by kernel_rfl) 80 rfl)
   refine ite_of (Eq.trans (wanted_F (b' := true) rfl rfl (by decide) sv80) rfl) ?_; exact oV
 · rintro sJ wJ hbJ hunJ hdJ
   have sv81 : sJ 81 = .int .i64 0 := hvE (hdJ 19 (by kernel_rfl) 81 rfl)
   have sv80 : sJ 80 = .bool true := hvE (hdJ 18 (by kernel_rfl) 80 rfl)
   refine ite_of (Eq.trans (wanted_F (b' := true) rfl rfl (by decide) sv80) rfl) ?_; exact oV
 · rintro sJ wJ hbJ hunJ hdJ
   have sv80 : sJ 80 = .bool true := hvE (hdJ 18 (by kernel_rfl) 80 rfl)
   have sv82 : sJ 82 = .bool true := hvE (hdJ 20 (by kernel_rfl) 82 rfl)
   rw [if_pos (by rfl)]; exact oV
 · rintro sJ wJ hbJ hunJ hdJ
   have sv83 : sJ 83 = .bool true := hvE (hdJ 21 (by kernel_rfl) 83 rfl)
   rw [if_pos (by rfl)]; exact oV
 · rintro sJ wJ hbJ hunJ hdJ
   have sv16 := (hunJ 16 (by decide) (un_of (by kernel_rfl))).trans sl16
   have sv84 : sJ 84 = .bool true := hvE (hdJ 22 (by kernel_rfl) 84 rfl)
   refine ite_of (Eq.trans (wanted_F (b' := true) rfl rfl (by decide) sv84) rfl) ?_; exact oV
 · rintro sJ wJ hbJ hunJ hdJ
   have sv85 : sJ 85 = .int .i64 0 := hvE (hdJ 23 (by kernel_rfl) 85 rfl)
   have sv84 : sJ 84 = .bool true := hvE (hdJ 22 (by kernel_rfl) 84 rfl)
   refine ite_of (Eq.trans (wanted_F (b' := true) rfl rfl (by decide) sv84) rfl) ?_; exact oV
 · rintro sJ wJ hbJ hunJ hdJ
   have sv84 : sJ 84 = .bool true := hvE (hdJ 22 (by kernel_rfl) 84 rfl)
   have sv86 : sJ 86 = .bool true := hvE (hdJ 24 (by kernel_rfl) 86 rfl)
   rw [if_pos (by rfl)]; exact oV
 · rintro sJ wJ hbJ hunJ hdJ
   have sv87 : sJ 87 = .bool true := hvE (hdJ 25 (by kernel_rfl) 87 rfl)
   rw [if_pos (by rfl)]; exact oV
 · rintro sJ wJ hbJ hunJ hdJ
   have sv1 := (hunJ 1 (by decide) (un_of (by kernel_rfl))).trans sl1
   have sv88 : sJ 88 = .bool true := hvE (hdJ 26 (by kernel_rfl) 88 rfl)
   refine XW51c ?_; exact oV
 · rintro sJ wJ hbJ hunJ hdJ
   have sv89 : sJ 89 = .pointer (some ⟨B1, 3, none⟩) := hvE (hdJ 27 (by kernel_rfl) 89 rfl)
   have sv88 : sJ 88 = .bool true := hvE (hdJ 26 (by kernel_rfl) 88 rfl)
   have kJ := kb1.at hbJ; have qJ := kJ.1; have cJ_3 := kJ.cell 3 rfl; refine XW51c ?_; exact oV
 · rintro sJ wJ hbJ hunJ hdJ
   have sv88 : sJ 88 = .bool true := hvE (hdJ 26 (by kernel_rfl) 88 rfl)
   refine XW51c ?_; exact XW51d
 · rintro sJ wJ hbJ hunJ hdJ
   have sv90 : sJ 90 = Value.slice A20.pa exR.printed.length A20.pc := hvE (hdJ 28 (by kernel_rfl) 90 rfl)
   obtain ⟨lo29, hi29, lw29, hw29, hv29⟩ := hdJ 29 (by kernel_rfl) 91 rfl; obtain ⟨B91, sv91, gl91, gr91, kb91'⟩ := hv29
   have sv88 : sJ 88 = .bool true := hvE (hdJ 26 (by kernel_rfl) 88 rfl)
   refine XW51c ?_; unfold opF; go_simp; refine (ints_eq A20.pa A20.pc exR.printed (some ⟨B91, 0, none⟩) 1 [6] _ (Rd.at hP20 hbJ) (Cells.rd (f := int1) (m := 1) (l := [6]) (fun _ => rfl) kb91') (by decide) exR_p).mono ?_; rintro e wN ⟨rfl, hbN⟩; exact ⟨_, rfl, rfl, hbN⟩
 · rintro sJ wJ hbJ hunJ hdJ
   have sv88 : sJ 88 = .bool true := hvE (hdJ 26 (by kernel_rfl) 88 rfl)
   have sv92 : sJ 92 = .bool true := hvE (hdJ 30 (by kernel_rfl) 92 rfl)
   rw [if_pos (by rfl)]; exact oV
 · rintro sJ wJ hbJ hunJ hdJ
   have sv93 : sJ 93 = .bool true := hvE (hdJ 31 (by kernel_rfl) 93 rfl)
   rw [if_pos (by rfl)]; exact oV
 · rintro sJ wJ hbJ hunJ hdJ
   have sv3 := (hunJ 3 (by decide) (un_of (by kernel_rfl))).trans sl3
   have sv94 : sJ 94 = .bool true := hvE (hdJ 32 (by kernel_rfl) 94 rfl)
   refine ite_of (Eq.trans (wanted_F (b' := true) rfl rfl (by decide) sv94) rfl) ?_; exact oV
 · rintro sJ wJ hbJ hunJ hdJ
   have sv95 : sJ 95 = .int .i64 5 := hvE (hdJ 33 (by kernel_rfl) 95 rfl)
   have sv94 : sJ 94 = .bool true := hvE (hdJ 32 (by kernel_rfl) 94 rfl)
   refine ite_of (Eq.trans (wanted_F (b' := true) rfl rfl (by decide) sv94) rfl) ?_; exact oV
 · rintro sJ wJ hbJ hunJ hdJ
   have sv94 : sJ 94 = .bool true := hvE (hdJ 32 (by kernel_rfl) 94 rfl)
   have sv96 : sJ 96 = .bool true := hvE (hdJ 34 (by kernel_rfl) 96 rfl)
   rw [if_pos (by rfl)]; exact oV
 · rintro sJ wJ hbJ hunJ hdJ
   have sv97 : sJ 97 = .bool true := hvE (hdJ 35 (by kernel_rfl) 97 rfl)
   rw [if_pos (by rfl)]; exact oV
 · rintro sJ wJ hbJ hunJ hdJ
   have sv4 := (hunJ 4 (by decide) (un_of (by kernel_rfl))).trans sl4
   have sv98 : sJ 98 = .bool true := hvE (hdJ 36 (by kernel_rfl) 98 rfl)
   refine XW51e ?_; exact oV
 · rintro sJ wJ hbJ hunJ hdJ
   have sv99 : sJ 99 = .pointer (some ⟨B4, 0, none⟩) := hvE (hdJ 37 (by kernel_rfl) 99 rfl)
   have sv98 : sJ 98 = .bool true := hvE (hdJ 36 (by kernel_rfl) 98 rfl)
   have kJ := kb4.at hbJ; have qJ := kJ.1; have cJ_0 := kJ.cell 0 rfl; refine XW51e ?_; exact oV
 · rintro sJ wJ hbJ hunJ hdJ
   have sv100 : sJ 100 = .int .i64 10 := hvE (hdJ 38 (by kernel_rfl) 100 rfl)
   have sv98 : sJ 98 = .bool true := hvE (hdJ 36 (by kernel_rfl) 98 rfl)
   refine XW51e ?_; exact oV
 · rintro sJ wJ hbJ hunJ hdJ
   have sv98 : sJ 98 = .bool true := hvE (hdJ 36 (by kernel_rfl) 98 rfl)
   have sv101 : sJ 101 = .bool true := hvE (hdJ 39 (by kernel_rfl) 101 rfl)
   rw [if_pos (by rfl)]; exact oV
 · rintro sJ wJ hbJ hunJ hdJ
   have sv102 : sJ 102 = .bool true := hvE (hdJ 40 (by kernel_rfl) 102 rfl)
   rw [if_pos (by rfl)]; exact oV
 · rintro sJ wJ hbJ hunJ hdJ
   have sv4 := (hunJ 4 (by decide) (un_of (by kernel_rfl))).trans sl4
   have sv103 : sJ 103 = .bool true := hvE (hdJ 41 (by kernel_rfl) 103 rfl)
   refine XW51f ?_; exact oV
 · rintro sJ wJ hbJ hunJ hdJ
   have sv104 : sJ 104 = .pointer (some ⟨B4, 1, none⟩) := hvE (hdJ 42 (by kernel_rfl) 104 rfl)
   have sv103 : sJ 103 = .bool true := hvE (hdJ 41 (by kernel_rfl) 103 rfl)
   have kJ := kb4.at hbJ; have qJ := kJ.1; have cJ_1 := kJ.cell 1 rfl; have cJ_2 := kJ.cell 2 rfl; have cJ_3 := kJ.cell 3 rfl; have cJ_4 := kJ.cell 4 rfl; refine XW51f ?_; exact oV
 · rintro sJ wJ hbJ hunJ hdJ
   have sv103 : sJ 103 = .bool true := hvE (hdJ 41 (by kernel_rfl) 103 rfl)
   refine XW51f ?_; exact oV
 · rintro sJ wJ hbJ hunJ hdJ
   have sv105 : sJ 105 = .agg #[.int .i64 2, .int .i64 5, .int .i64 14, .int .i64 0] := hvE (hdJ 43 (by kernel_rfl) 105 rfl)
   have sv106 : sJ 106 = .agg #[.int .i64 2, .int .i64 5, .int .i64 14, .int .i64 0] := hvE (hdJ 44 (by kernel_rfl) 106 rfl)
   have sv103 : sJ 103 = .bool true := hvE (hdJ 41 (by kernel_rfl) 103 rfl)
   refine XW51f ?_; exact oV
 · rintro sJ wJ hbJ hunJ hdJ
   have sv103 : sJ 103 = .bool true := hvE (hdJ 41 (by kernel_rfl) 103 rfl)
   have sv107 : sJ 107 = .bool true := hvE (hdJ 45 (by kernel_rfl) 107 rfl)
   rw [if_pos (by rfl)]; exact oV
 · rintro sJ wJ hbJ hunJ hdJ
   have sv108 : sJ 108 = .bool true := hvE (hdJ 46 (by kernel_rfl) 108 rfl)
   rw [if_pos (by rfl)]; exact oV
 · rintro sJ wJ hbJ hunJ hdJ
   have sv9 := (hunJ 9 (by decide) (un_of (by kernel_rfl))).trans sl9
   have sv109 : sJ 109 = .bool true := hvE (hdJ 47 (by kernel_rfl) 109 rfl)
   refine XW51g ?_; exact oV
 · rintro sJ wJ hbJ hunJ hdJ
   have sv110 : sJ 110 = .slice a40 0 c40 := hvE (hdJ 48 (by kernel_rfl) 110 rfl)
   have sv109 : sJ 109 = .bool true := hvE (hdJ 47 (by kernel_rfl) 109 rfl)
   refine XW51g ?_; exact oV
 · rintro sJ wJ hbJ hunJ hdJ
   have sv111 : sJ 111 = .int .i64 0 := hvE (hdJ 49 (by kernel_rfl) 111 rfl)
   have sv109 : sJ 109 = .bool true := hvE (hdJ 47 (by kernel_rfl) 109 rfl)
   refine XW51g ?_; exact oV
 · rintro sJ wJ hbJ hunJ hdJ
   have sv109 : sJ 109 = .bool true := hvE (hdJ 47 (by kernel_rfl) 109 rfl)
   have sv112 : sJ 112 = .bool true := hvE (hdJ 50 (by kernel_rfl) 112 rfl)
   rw [if_pos (by rfl)]; exact oV
 · rintro sJ wJ hbJ hunJ hdJ
   have sv113 : sJ 113 = .bool true := hvE (hdJ 51 (by kernel_rfl) 113 rfl)
   rw [if_pos (by rfl)]; exact oV
 · rintro sJ wJ hbJ hunJ hdJ
   have sv11 := (hunJ 11 (by decide) (un_of (by kernel_rfl))).trans sl11
   have sv114 : sJ 114 = .bool true := hvE (hdJ 52 (by kernel_rfl) 114 rfl)
   refine XW51h ?_; exact oV
 · rintro sJ wJ hbJ hunJ hdJ
   have sv114 : sJ 114 = .bool true := hvE (hdJ 52 (by kernel_rfl) 114 rfl)
   refine XW51h ?_; exact XW51d
 · rintro sJ wJ hbJ hunJ hdJ
   have sv115 : sJ 115 = .slice a46 1 c46 := hvE (hdJ 53 (by kernel_rfl) 115 rfl)
   obtain ⟨lo54, hi54, lw54, hw54, hv54⟩ := hdJ 54 (by kernel_rfl) 116 rfl; obtain ⟨B116, sv116, gl116, gr116, kb116'⟩ := hv54
   have sv114 : sJ 114 = .bool true := hvE (hdJ 52 (by kernel_rfl) 114 rfl)
   refine XW51h ?_; unfold opF; go_simp; refine (ints_eq a46 c46 [1] (some ⟨B116, 0, none⟩) 1 [1] _ (Rd.at h46 hbJ) (Cells.rd (f := int1) (m := 1) (l := [1]) (fun _ => rfl) kb116') (by decide) rfl).mono ?_; rintro e wN ⟨rfl, hbN⟩; exact ⟨_, rfl, rfl, hbN⟩
 · rintro sJ wJ hbJ hunJ hdJ
   have sv114 : sJ 114 = .bool true := hvE (hdJ 52 (by kernel_rfl) 114 rfl)
   have sv117 : sJ 117 = .bool true := hvE (hdJ 55 (by kernel_rfl) 117 rfl)
   rw [if_pos (by rfl)]; exact oV
 · rintro sJ wJ hbJ hunJ hdJ
   have sv118 : sJ 118 = .bool true := hvE (hdJ 56 (by kernel_rfl) 118 rfl)
   rw [if_pos (by rfl)]; exact oV
 · rintro sJ wJ hbJ hunJ hdJ
   have sv13 := (hunJ 13 (by decide) (un_of (by kernel_rfl))).trans sl13
   have sv119 : sJ 119 = .bool true := hvE (hdJ 57 (by kernel_rfl) 119 rfl)
   refine XW51i ?_; exact oV
 · rintro sJ wJ hbJ hunJ hdJ
   have sv119 : sJ 119 = .bool true := hvE (hdJ 57 (by kernel_rfl) 119 rfl)
   refine XW51i ?_; exact oV
 · rintro sJ wJ hbJ hunJ hdJ
   have sv121 : sJ 121 = .agg #[.int .i64 1, .string tank3] := hvE (hdJ 59 (by kernel_rfl) 121 rfl)
   have sv119 : sJ 119 = .bool true := hvE (hdJ 57 (by kernel_rfl) 119 rfl)
   refine XW51i ?_; exact XW51d
 · rintro sJ wJ hbJ hunJ hdJ
   have sv120 : sJ 120 = .slice a51 1 c51 := hvE (hdJ 58 (by kernel_rfl) 120 rfl)
   obtain ⟨lo60, hi60, lw60, hw60, hv60⟩ := hdJ 60 (by kernel_rfl) 122 rfl; obtain ⟨B122, sv122, gl122, gr122, kb122'⟩ := hv60
   have sv119 : sJ 119 = .bool true := hvE (hdJ 57 (by kernel_rfl) 119 rfl)
   refine XW51i ?_; unfold opF; go_simp; refine (units_eq a51 c51 exU (some ⟨B122, 0, none⟩) 1 exU _ (Rd.at h51 hbJ) (Cells.rd (f := Unt.cs) (m := 2) (l := exU) (fun _ => rfl) kb122') (by decide) rfl).mono ?_; rintro e wN ⟨rfl, hbN⟩; exact ⟨_, rfl, rfl, hbN⟩
 · rintro sJ wJ hbJ hunJ hdJ
   have sv119 : sJ 119 = .bool true := hvE (hdJ 57 (by kernel_rfl) 119 rfl)
   have sv123 : sJ 123 = .bool true := hvE (hdJ 61 (by kernel_rfl) 123 rfl)
   rw [if_pos (by rfl)]; exact oV
 · rintro sJ wJ hbJ hunJ hdJ
   have sv124 : sJ 124 = .bool true := hvE (hdJ 62 (by kernel_rfl) 124 rfl)
   rw [if_pos (by rfl)]; exact oV
 · rintro sJ wJ hbJ hunJ hdJ
   have sv15 := (hunJ 15 (by decide) (un_of (by kernel_rfl))).trans sl15
   have sv125 : sJ 125 = .bool true := hvE (hdJ 63 (by kernel_rfl) 125 rfl)
   refine XW51j ?_; exact oV
 · exact XW51b
 · rintro sJ wJ hbJ hunJ hdJ
   obtain ⟨lo65, hi65, lw65, hw65, hv65⟩ := hdJ 65 (by kernel_rfl) 127 rfl; obtain ⟨BE127, sv127, hE127⟩ := hv65
   have sv125 : sJ 125 = .bool true := hvE (hdJ 63 (by kernel_rfl) 125 rfl)
   refine XW51j ?_; obtain ⟨bq, oq, haq, hbq, e0', e1', e2', e3'⟩ := RdEn.ne hE127 (k := 0) (by decide)
   cases haq
   unfold opF; go_simp; exact ⟨⟨_, _, rfl, hbq, e0', e1', e2', e3'⟩, Below.refl _ _⟩
 · rintro sJ wJ hbJ hunJ hdJ
   obtain ⟨lo66, hi66, lw66, hw66, hv66⟩ := hdJ 66 (by kernel_rfl) 128 rfl; obtain ⟨bp128, op128, sv128, hq128, d0, d1, d2, d3⟩ := hv66
   have sv125 : sJ 125 = .bool true := hvE (hdJ 63 (by kernel_rfl) 125 rfl)
   refine XW51j ?_; exact oV
 · exact XW51b
 · rintro sJ wJ hbJ hunJ hdJ
   obtain ⟨lo68, hi68, lw68, hw68, hv68⟩ := hdJ 68 (by kernel_rfl) 130 rfl; obtain ⟨BE130, sv130, hE130⟩ := hv68
   have sv125 : sJ 125 = .bool true := hvE (hdJ 63 (by kernel_rfl) 125 rfl)
   refine XW51j ?_; obtain ⟨bq, oq, haq, hbq, e0', e1', e2', e3'⟩ := RdEn.ne hE130 (k := 2) (by decide)
   cases haq
   unfold opF; go_simp; exact ⟨⟨_, _, rfl, hbq, e0', e1', e2', e3'⟩, Below.refl _ _⟩
 · rintro sJ wJ hbJ hunJ hdJ
   obtain ⟨lo69, hi69, lw69, hw69, hv69⟩ := hdJ 69 (by kernel_rfl) 131 rfl; obtain ⟨bp131, op131, sv131, hq131, d0, d1, d2, d3⟩ := hv69
   have sv125 : sJ 125 = .bool true := hvE (hdJ 63 (by kernel_rfl) 125 rfl)
   refine XW51j ?_; exact oV
 · exact XW51b
 · rintro sJ wJ hbJ hunJ hdJ
   obtain ⟨lo71, hi71, lw71, hw71, hv71⟩ := hdJ 71 (by kernel_rfl) 133 rfl; obtain ⟨BE133, sv133, hE133⟩ := hv71
   have sv125 : sJ 125 = .bool true := hvE (hdJ 63 (by kernel_rfl) 125 rfl)
   refine XW51j ?_; obtain ⟨bq, oq, haq, hbq, e0', e1', e2', e3'⟩ := RdEn.ne hE133 (k := 1) (by decide)
   cases haq
   unfold opF; go_simp; exact ⟨⟨_, _, rfl, hbq, e0', e1', e2', e3'⟩, Below.refl _ _⟩
 · rintro sJ wJ hbJ hunJ hdJ
   obtain ⟨lo72, hi72, lw72, hw72, hv72⟩ := hdJ 72 (by kernel_rfl) 134 rfl; obtain ⟨bp134, op134, sv134, hq134, d0, d1, d2, d3⟩ := hv72
   have sv125 : sJ 125 = .bool true := hvE (hdJ 63 (by kernel_rfl) 125 rfl)
   refine XW51j ?_; exact oV
 · rintro sJ wJ hbJ hunJ hdJ
   have sv129 : sJ 129 = .agg #[.int .i64 e0.num, .int .i64 e0.mach, .int .i64 e0.day, .string e0.unit] := hvE (hdJ 67 (by kernel_rfl) 129 rfl)
   have sv132 : sJ 132 = .agg #[.int .i64 e2.num, .int .i64 e2.mach, .int .i64 e2.day, .string e2.unit] := hvE (hdJ 70 (by kernel_rfl) 132 rfl)
   have sv135 : sJ 135 = .agg #[.int .i64 e1.num, .int .i64 e1.mach, .int .i64 e1.day, .string e1.unit] := hvE (hdJ 73 (by kernel_rfl) 135 rfl)
   have sv125 : sJ 125 = .bool true := hvE (hdJ 63 (by kernel_rfl) 125 rfl)
   refine XW51j ?_; exact XW51d
 · rintro sJ wJ hbJ hunJ hdJ
   have sv126 : sJ 126 = .slice a59 3 c59 := hvE (hdJ 64 (by kernel_rfl) 126 rfl)
   obtain ⟨lo74, hi74, lw74, hw74, hv74⟩ := hdJ 74 (by kernel_rfl) 136 rfl; obtain ⟨B136, sv136, gl136, gr136, kb136'⟩ := hv74
   have sv125 : sJ 125 = .bool true := hvE (hdJ 63 (by kernel_rfl) 125 rfl)
   refine XW51j ?_; unfold opF; go_simp; refine (ents_eq a59 c59 exM (some ⟨B136, 0, none⟩) 3 exM _ (Rd.at h59 hbJ) (Cells.rd (f := Ent.cs) (m := 4) (l := exM) (fun _ => rfl) kb136') (by decide) rfl).mono ?_; rintro e wN ⟨rfl, hbN⟩; exact ⟨_, rfl, rfl, hbN⟩
 · rintro sJ wJ hbJ hunJ hdJ
   have sv125 : sJ 125 = .bool true := hvE (hdJ 63 (by kernel_rfl) 125 rfl)
   have sv137 : sJ 137 = .bool true := hvE (hdJ 75 (by kernel_rfl) 137 rfl)
   rw [if_pos (by rfl)]; exact oV
 · rintro sJ wJ hbJ hunJ hdJ
   have sv138 : sJ 138 = .bool true := hvE (hdJ 76 (by kernel_rfl) 138 rfl)
   rw [if_pos (by rfl)]; exact oV
 intro s65 w63 aJ bJ hb64 hunJ hvJ hapJ; clear sl1 sl2 sl3 sl4 sl5 sl8 sl9 sl10 sl11 sl12 sl13 sl14 sl15 sl16; have sl0 : s65 0 = .bool true := (hvJ 77 (by decide)).2.2.2 0 rfl; clear hunJ hvJ hapJ; have gS := HB.out.size; clear qb1 qb4 qb7 qb58; replace hP20 := Rd.at hP20 hb64; replace h46 := Rd.at h46 hb64; replace h51 := Rd.at h51 hb64; replace h59 := Rd.at h59 hb64; revert HB; revert HL9; revert kb58; revert kb7; revert kb4; revert kb1; refine uA hb64 ?_; clear hb64; intro kb1 qb1 kb4 qb4 kb7 qb7 kb58 qb58 HL9 HB; refine lx [] ?_; clear sl0; intro s66 sl0; refine ln ?_; intros
 refine ret_F _ (res_t Tryz.results18 ((getD_F (by decide)).trans sl0)) ?_; exact ⟨rfl, HB.out.toBelow⟩

end Go.Proofs.YtleknidlgmmgbaaGreat
