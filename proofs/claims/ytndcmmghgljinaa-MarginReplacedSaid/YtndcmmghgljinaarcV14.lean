/- MarginReplaced. -/
import Derived.Test.YtndcmmghgljinaarcM8
import Derived.Test.YtndcmmghgljinaarcM10
import Derived.Test.YtndcmmghgljinaarcR9
set_option linter.all false
namespace Go.Proofs.Ytndcmmghgljinaa

open Go.RowKit

set_option maxRecDepth 100000 in
set_option maxHeartbeats 16000000 in
theorem replaced_walk (ar : Option Addr) (cr : Nat) (ks : List Kr) (an : Option Addr) (cn : Nat) (ns : List Int) (xf xu : Int) (aw : Option Addr) (cw : Nat) (lw : List Int) (ab : Option Addr) (nb cb : Nat) (w : World) (hRk : RdKinds w ar ks) (hsz : ks.length * 48 ≤ 140737488351232) (hRn : RdInts w an ns) (hln : ns.length ≤ 9223372036854775807) (hxf : 0 ≤ xf ∧ xf ≤ 65535) (hxu : 0 ≤ xu ∧ xu ≤ 65535) (hRw : RdU w aw lw) (hlw : lw.length ≤ 9223372036854775807) (hU : U16 lw) :
    Calls Try.prog 15 #[.slice ar ks.length cr, .slice an ns.length cn, .agg #[.int .u16 xf, .int .u16 xu, .slice aw lw.length cw, .slice ab nb cb]] w (fun e w' => e = .returned (.bool true) ∧ Below w.heap.size w w') := by
 have HRk := hid hRk; have HRn := hid hRn; have HRw := hid hRw; have HU := hid hU; clear hRk hRn hRw hU; have yf := u16_wrap hxf; have yu := u16_wrap hxu
 obtain ⟨f, hf1, hf2⟩ : ∃ n : Nat, xf.tmod 300 = (n : Int) ∧ n < 300 := by obtain ⟨n, h1, h2, _⟩ := turn_nat (x := xf) (l := 300) hxf.1 (by omega) (by omega); exact ⟨n, h1, h2⟩
 obtain ⟨g, hg1, hg2⟩ : ∃ n : Nat, xu.tmod 600 = (n : Int) ∧ n < 600 := by obtain ⟨n, h1, h2, _⟩ := turn_nat (x := xu) (l := 600) hxu.1 (by omega) (by omega); exact ⟨n, h1, h2⟩
 have wf := IntWalk.i64_in (f : Int) (by omega); have wg := IntWalk.i64_in (g : Int) (by omega); obtain ⟨u, hu⟩ : ∃ u, u = f + g := ⟨_, rfl⟩
 have hfu : f ≤ u := by omega
 have hu9 : u < 900 := by omega
 have wu : IntKind.i64.wrap ((f : Int) + (g : Int)) = (u : Int) := by rw [IntWalk.i64_in _ (by omega)]; omega
 clear hu; obtain ⟨i1, hi1, hz1, hy1, hx1⟩ := info_parts info_bool; obtain ⟨i0, hi0, hz0, hy0, hx0⟩ := info_parts info_vl
 refine enter_F Try.func15 rfl Try.ntmps15 (by simp) ?_
 intro s0 hs; have sl0 : s0 0 = .slice ar ks.length cr := hs 0 (by simp); have sl1 : s0 1 = .slice an ns.length cn := hs 1 (by simp); have sl2 : s0 2 = .agg #[.int .u16 xf, .int .u16 xu, .slice aw lw.length cw, .slice ab nb cb] := hs 2 (by simp); clear hs; have HB := hid (OldB.refl [] w)
 repeat ((fail_if_success refine stp ?_); with_reducible go_step)
 refine region_F ?_; refine pa (fun w1 B5 hB kb5' hb2 => ?_); have gb5 := HB.out.gB hB; have eb5 := eB hB; clear hB; replace HB := hid (HB.out.below hb2); clear hb2; have kb5 := kb5'; clear kb5'; have qb5 := kb5.1; refine pl ?_; refine listF_abs (fun s3 z' => ?_); replace sl0 := gs 0 z' sl0; replace sl1 := gs 1 z' sl1; have sl5 := gu 5 z'; clear z' sl2; refine listF_nil ?_
 repeat ((fail_if_success refine stp ?_); with_reducible go_step)
 refine region_F ?_; refine pl ?_; refine listF_abs (fun s4 z' => ?_); replace sl0 := gs 0 z' sl0; replace sl1 := gs 1 z' sl1; replace sl5 := gs 5 z' sl5; have sl7 := gu 7 z'; clear z'; refine listF_nil ?_
 repeat ((fail_if_success refine stp ?_); with_reducible go_step)
 refine region_F ?_; obtain ⟨NB, hNB⟩ : ∃ n, n = w1.heap.size := ⟨_, rfl⟩; have b5NB := oB qb5 hNB; have gNB := HB.out.gB hNB
 have hNB0 : NB ≤ w1.heap.size := by omega
 clear hNB; refine pl ?_; refine listF_abs (fun s5 z' => ?_); replace sl0 := gs 0 z' sl0; replace sl1 := gs 1 z' sl1; replace sl5 := gs 5 z' sl5; replace sl7 := gs 7 z' sl7; have sl8 := gu 8 z'; clear z'; refine listF_nil ?_
 repeat ((fail_if_success refine stp ?_); with_reducible go_step)
 clear qb5; have hc0_0 := hid sl0; have hc0_1 := hid sl1; have hc0_5 := hid sl5; refine loop_F (n := 127) (fun kJ sJ wJ => ∃ (i : Nat) (a7 : Option Addr) (c7 : Nat), kJ = ks.length - i ∧ sJ 7 = .slice a7 i c7 ∧ sJ 8 = .int .i64 (i : Int) ∧ sJ 0 = s5 0 ∧ sJ 1 = s5 1 ∧ sJ 5 = s5 5 ∧ OldB [] w wJ ∧ i ≤ ks.length ∧ Cells wJ B5 [.int .u16 xf, .int .u16 xu, .slice aw lw.length cw, .slice ab nb cb] ∧ Own Vl.vs 5 92 NB wJ (Value.slice a7 i c7) (rackU ks i) ∧ NB ≤ wJ.heap.size) ⟨0, none, 0, rfl, (by first | exact sl7 | (rw [sl7]; go_num) | (rw [sl7]; rfl)), (by first | exact sl8 | (rw [sl8]; go_num) | (rw [sl8]; rfl)), rfl, rfl, rfl, HB.out, Nat.zero_le _, kb5, Own.nil _ _ _ _ _, hNB0⟩ ?_; clear sl7 sl8 kb5 HB; rintro kJ s6 w7 ⟨i, a7, c7, rfl, sl7, sl8, e0, e1, e5, HB', hil, k5x, hO7, hNBw⟩; replace sl0 := e0.trans sl0; clear e0; replace sl1 := e1.trans sl1; clear e1; replace sl5 := e5.trans sl5; clear e5
 have HB := hid HB'; clear HB'; have kb5 := k5x; clear k5x; have qb5 := kb5.1
 repeat ((fail_if_success refine stp ?_); with_reducible go_step)
 refine region_F ?_
 iterate 4 refine pl ?_
 refine listF_abs (fun s8 z' => ?_); replace sl0 := gs 0 z' sl0; replace sl1 := gs 1 z' sl1; replace sl5 := gs 5 z' sl5; replace sl7 := gs 7 z' sl7; replace sl8 := gs 8 z' sl8; have sl21 := gu 21 z'; clear z'; refine listF_nil ?_
 repeat ((fail_if_success refine stp ?_); with_reducible go_step)
 refine cond_E sl21 (by decide) ?_ ?_ <;> (clear sl21; intro h21 sl21)
 ·skip
  have hi : i < ks.length := by simpa using h21
  have hii : (i : Int) < ks.length := by omega
  obtain ⟨x, hx⟩ : ∃ y, ks[i] = y := ⟨_, rfl⟩; obtain ⟨b, off, hae, hbs, c0, c1, c2, c3⟩ := RdKr.ne (RdKinds.oldB HRk.out HB.out).rd hi hx; subst hae; have Hx := hid hx; clear hx
  repeat ((fail_if_success refine stp ?_); with_reducible go_step)
  refine region_F ?_
  iterate 6 refine pl ?_
  refine pas (fun w9 B30 hB kb30' hb10 => ?_); have gb30 := HB.out.gB hB; have ob5_b30 := oB qb5 hB
  have nhO7_b30 : ∀ g, (Value.slice a7 i c7).ownBlock = some g → g < B30 := fun g hg => by have := (World.ownsRow.lt hO7 g hg).2; omega
  have eb30 := eB hB; clear hB; clear qb5; replace kb5 := kb5.at hb10; replace hNBw := Nat.le_trans hNBw hb10.size; replace hO7 := Own.at hO7 hb10; replace HB := hid (HB.out.below hb10); clear hb10; have qb5 := kb5.1; have kb30 := kb30'; clear kb30'; have qb30 := kb30.1
  have ab5 : (Value.slice a7 i c7).ownBlock ≠ some B5 := fun e => by have n0 := (World.ownsRow.lt hO7 B5 e).1; omega
  have ab30 : (Value.slice a7 i c7).ownBlock ≠ some B30 := fun e => by have n0 := (World.ownsRow.lt hO7 B30 e).1; have n9 := nhO7_b30 B30 e; omega
  have hzz := HB.out.size; refine listF_step rfl (fun K' hK => ?_); refine opF_appw (d := 31) rfl (by decide) (.tmp 24) (.tmp 30) _ rfl 92 i0 _ 72 Try.underlying53 hi0 hz0 hy0 hx0 rfl (by decide) (fun _ => rfl) vl_one NB (Value.slice a7 i c7) (rackU ks i) [(Kr.vl x)] (some ⟨B30, 0, none⟩) 1 (by go_simp) (by go_simp) hO7 (Cells.rd (f := Vl.vs) (m := 5) (l := [(Kr.vl x)]) (fun _ => rfl) kb30) (by unfold maxLen; rw [rackU_len (by omega)]; simp; omega) (by rw [rackU_len (by omega)]; simp; omega) (by omega) (fun v31 w11 hO' hG hV => hK _ _ ?_); clear hK K' hzz; clear qb5 qb30; replace kb5 := kb5.grown hG ab5; clear ab5; replace kb30 := kb30.grown hG ab30; clear ab30; replace hNBw := Nat.le_trans hNBw hG.size; replace HB := hid (HB.out.grown hG (fun k hk => .inl (by have := (World.ownsRow.lt hO7 k hk).1; omega))); clear hO7; have hO7 := hO'; clear hO' hG hV; clear nhO7_b30; have qb5 := kb5.1; have qb30 := kb30.1
  rw [← rackU_succ hi Hx.out] at hO7; obtain ⟨a7', c7', rfl, hr9, hn9⟩ := Own.slice (f := Vl.vs) (m := 5) (fun _ => rfl) hO7; clear hr9 hn9; rw [rackU_len (by omega)] at hO7 ⊢; refine pl ?_; refine listF_abs (fun s12 z' => ?_); replace sl0 := gs 0 z' sl0; replace sl1 := gs 1 z' sl1; replace sl5 := gs 5 z' sl5; replace sl7 := gu 7 z'; replace sl8 := gs 8 z' sl8; clear z' sl21; refine listF_nil ?_
  repeat ((fail_if_success refine stp ?_); with_reducible go_step)
  refine region_F ?_
  iterate 3 refine pl ?_
  refine listF_abs (fun s13 z' => ?_); replace sl0 := gs 0 z' sl0; replace sl1 := gs 1 z' sl1; replace sl5 := gs 5 z' sl5; replace sl7 := gs 7 z' sl7; replace sl8 := gu 8 z'; clear z'; refine listF_nil ?_
  repeat ((fail_if_success refine stp ?_); with_reducible go_step)
  refine ⟨_, _, rfl, ?_, i + 1, a7', c7', rfl, (by first | (with_reducible exact sl7) | (rw [sl7]; (with_reducible go_num); done) | (rw [sl7, IntWalk.i64_in] <;> first | ((with_reducible go_num); done) | omega) | (rw [sl7]; go_num; done) | (rw [sl7]; simp; done) | (rw [sl7]; simp; omega)), (by first | (with_reducible exact sl8) | (rw [sl8]; (with_reducible go_num); done) | (rw [sl8, IntWalk.i64_in] <;> first | ((with_reducible go_num); done) | omega) | (rw [sl8]; go_num; done) | (rw [sl8]; simp; done) | (rw [sl8]; simp; omega)), (sl0.trans hc0_0.out.symm), (sl1.trans hc0_1.out.symm), (sl5.trans hc0_5.out.symm), HB.out, by omega, kb5, hO7, hNBw⟩
  omega
 ·skip
  have hi : i = ks.length := by have h := h21; simp at h; omega
  obtain ⟨rk, hrk⟩ : ∃ l, ks.map Kr.vl = l := ⟨_, rfl⟩
  have hrl : rk.length = ks.length := by rw [← hrk, List.length_map]
  have Hrk := hid hrk; rw [hi, rackU_all, hrk, ← hrl] at hO7; rw [hi, ← hrl] at sl7
  have hrk9 : rk.length ≤ 9223372036854775807 := by omega
  clear hrk hrl
  repeat ((fail_if_success refine stp ?_); with_reducible go_step)
  clear hc0_0 hc0_1 hc0_5; refine region_F ?_; refine pl ?_; have cb5_0 := kb5.cell 0 rfl; have cb5_1 := kb5.cell 1 rfl; have cb5_2 := kb5.cell 2 rfl; have cb5_3 := kb5.cell 3 rfl
  iterate 4 refine pl ?_
  refine listF_abs (fun s14 z' => ?_); replace sl0 := gs 0 z' sl0; replace sl1 := gs 1 z' sl1; replace sl5 := gs 5 z' sl5; replace sl7 := gs 7 z' sl7; have sl9 := gu 9 z'; clear z' sl8 sl21; refine listF_nil ?_
  repeat ((fail_if_success refine stp ?_); with_reducible go_step)
  refine region_F ?_
  iterate 7 refine pl ?_
  refine listF_abs (fun s15 z' => ?_); replace sl0 := gs 0 z' sl0; replace sl1 := gs 1 z' sl1; replace sl5 := gs 5 z' sl5; replace sl7 := gs 7 z' sl7; replace sl9 := gs 9 z' sl9; have sl10 := gu 10 z'; clear z'; refine listF_nil ?_
  repeat ((fail_if_success refine stp ?_); with_reducible go_step)
  refine region_F ?_
  iterate 4 refine pl ?_
  have hRR := hid (show RdRack w7 a7 rk from by rw [← Hrk.out]; exact rack_of (by rw [Hrk.out]; exact Own.rd' (f := Vl.vs) (m := 5) (fun _ => rfl) hO7 rfl) (RdKinds.oldB HRk.out HB.out).inn); refine listF_step rfl (fun K' hK => ?_); unfold opF; go_simp; refine (qreplace_any a7 c7 rk an cn ns (f : Int) (u : Int) _ hRR.out (Rd.oldB HRn.out HB.out (by simp)) hrk9 hln).mono ?_; rintro e w16 ⟨ap, xs, cp, rfl, hp, hx, hb17, fp⟩; obtain ⟨R, hR0⟩ : ∃ r, repRes rk ns f u = r := ⟨_, rfl⟩; rw [hR0] at hx ⊢; have HR0 := hid hR0; have Hx0 := hid hx; have Hp := hid hp; have HLp := hid (OldB.refl [] w16); clear hR0 hx hp fp hRR; refine ⟨_, rfl, hK _ _ ?_⟩; clear hK K'; clear cb5_0 cb5_1 cb5_2 cb5_3; clear qb5; replace kb5 := kb5.at hb17; replace hNBw := Nat.le_trans hNBw hb17.size; replace hO7 := Own.at hO7 hb17; replace HB := hid (HB.out.below hb17); clear hb17; have qb5 := kb5.1; clear hO7
  iterate 5 refine pl ?_
  refine listF_abs (fun s18 z' => ?_); replace sl0 := gs 0 z' sl0; replace sl1 := gs 1 z' sl1; replace sl5 := gs 5 z' sl5; replace sl9 := gs 9 z' sl9; replace sl10 := gs 10 z' sl10; have sl11 := gu 11 z'; have sl12 := gu 12 z'; clear z' sl7; refine listF_nil ?_
  repeat ((fail_if_success refine stp ?_); with_reducible go_step)
  by_cases hz : R.2 = 0
  ·skip
   have Hlen := hid (repl_len (by rw [Hrk.out]; exact HR0.out) hz)
   have hxl : xs.length = ns.length := by have h1 := congrArg List.length Hx0.out; rw [List.length_map] at h1; rw [h1]; exact Hlen.out.1
   have hn20 : ns.length ≤ 20 := Hlen.out.2.1; have Hz := hid hz
   have hxne : ((xs.length : Int) != ns.length) = false := by simp [hxl]
   have Hxl := hid hxl; clear hxl; refine region_F ?_; refine pl ?_; refine pl ?_; refine listF_abs (fun s19 z' => ?_); replace sl0 := gs 0 z' sl0; replace sl1 := gs 1 z' sl1; replace sl5 := gs 5 z' sl5; replace sl9 := gs 9 z' sl9; replace sl10 := gs 10 z' sl10; replace sl11 := gs 11 z' sl11; have sl51 := gu 51 z'; clear z' sl12; refine listF_nil ?_
   repeat ((fail_if_success refine stp ?_); with_reducible go_step)
   refine cond_f ?_
   repeat ((fail_if_success refine stp ?_); with_reducible go_step)
   refine region_F ?_
   iterate 5 refine pl ?_
   refine listF_abs (fun s20 z' => ?_); replace sl0 := gs 0 z' sl0; replace sl1 := gs 1 z' sl1; replace sl5 := gs 5 z' sl5; replace sl9 := gs 9 z' sl9; replace sl10 := gs 10 z' sl10; replace sl11 := gs 11 z' sl11; have sl62 := gu 62 z'; clear z' sl51; refine listF_nil ?_
   repeat ((fail_if_success refine stp ?_); with_reducible go_step)
   refine cond_f ?_
   repeat ((fail_if_success refine stp ?_); with_reducible go_step)
   refine region_F ?_; refine pl ?_; refine listF_abs (fun s21 z' => ?_); replace sl0 := gs 0 z' sl0; replace sl1 := gs 1 z' sl1; replace sl5 := gs 5 z' sl5; replace sl9 := gs 9 z' sl9; replace sl10 := gs 10 z' sl10; replace sl11 := gs 11 z' sl11; have sl13 := gu 13 z'; clear z' sl62; refine listF_nil ?_
   repeat ((fail_if_success refine stp ?_); with_reducible go_step)
   have hc1_0 := hid sl0; have hc1_1 := hid sl1; have hc1_5 := hid sl5; have hc1_9 := hid sl9; have hc1_10 := hid sl10; have hc1_11 := hid sl11; refine loop_F (n := 127) (fun kJ sJ wJ => ∃ (i : Nat), kJ = ks.length - i ∧ sJ 13 = .int .i64 (i : Int) ∧ sJ 0 = s21 0 ∧ sJ 1 = s21 1 ∧ sJ 5 = s21 5 ∧ sJ 9 = s21 9 ∧ sJ 10 = s21 10 ∧ sJ 11 = s21 11 ∧ OldB [] w16 wJ ∧ i ≤ ks.length) ⟨0, rfl, (by first | exact sl13 | (rw [sl13]; go_num) | (rw [sl13]; rfl)), rfl, rfl, rfl, rfl, rfl, rfl, OldB.refl _ _, Nat.zero_le _⟩ ?_; clear sl13; rintro kJ s22 w23 ⟨i, rfl, sl13, e0, e1, e5, e9, e10, e11, hb24, hil⟩; replace sl0 := e0.trans sl0; clear e0; replace sl1 := e1.trans sl1; clear e1; replace sl5 := e5.trans sl5; clear e5; replace sl9 := e9.trans sl9; clear e9; replace sl10 := e10.trans sl10; clear e10; replace sl11 := e11.trans sl11; clear e11; have hoJ := hb24; clear qb5; replace kb5 := kb5.oldB hb24 (by first | (simp; done) | (simp; omega))
   replace hNBw := Nat.le_trans hNBw hb24.size; replace HLp := hid (HLp.out.more hb24 (by simp; try omega)); replace HB := hid (HB.out.more hb24 (by simp; try omega)); clear hb24; have qb5 := kb5.1; have HoJ := hid hoJ; clear hoJ; have HL25 := HoJ; clear HoJ
   repeat ((fail_if_success refine stp ?_); with_reducible go_step)
   refine region_F ?_
   iterate 4 refine pl ?_
   refine listF_abs (fun s26 z' => ?_); replace sl0 := gs 0 z' sl0; replace sl1 := gs 1 z' sl1; replace sl5 := gs 5 z' sl5; replace sl9 := gs 9 z' sl9; replace sl10 := gs 10 z' sl10; replace sl11 := gs 11 z' sl11; replace sl13 := gs 13 z' sl13; have sl66 := gu 66 z'; clear z'; refine listF_nil ?_
   repeat ((fail_if_success refine stp ?_); with_reducible go_step)
   refine cond_E sl66 (by decide) ?_ ?_ <;> (clear sl66; intro h66 sl66)
   ·skip
    have hi : i < ks.length := by simpa using h66
    have hii : (i : Int) < ks.length := by omega
    obtain ⟨x, hx⟩ : ∃ y, ks[i] = y := ⟨_, rfl⟩; obtain ⟨b, off, hae, hbs, c0, c1, c2, c3⟩ := RdKr.ne (RdKinds.oldB HRk.out HB.out).rd hi hx; subst hae; have hrp := repl_kind (by rw [Hrk.out]; exact HR0.out) Hz.out (by omega) hfu hi hx lw; have HE := hid hrp.1; have HK := hid (kok_of hrp.1); have HF := hid hrp.2; have Hx := hid hx; have HRx := hid (HRk.out.inn x (by rw [← hx]; exact List.getElem_mem hi)); have hks12 := Hlen.out.2.2; clear hrp hx
    repeat ((fail_if_success refine stp ?_); with_reducible go_step)
    refine region_F ?_
    iterate 4 refine pl ?_
    refine listF_step rfl (fun K' hK => ?_); unfold opF; go_simp; refine (rcheck_any x.k x.a x.c _ (HRx.out.2.1) (Rd.oldB HRx.out.2.2 HB.out (by simp))).mono ?_; rintro e w27 ⟨rfl, hb28⟩; rw [HE.out]; refine ⟨_, rfl, hK _ _ ?_⟩; clear hK K'; clear qb5; replace kb5 := kb5.at hb28; replace hNBw := Nat.le_trans hNBw hb28.size; replace HLp := hid (HLp.out.below hb28); replace HL25 := hid (HL25.out.below hb28); replace HB := hid (HB.out.below hb28); clear hb28; have qb5 := kb5.1; refine pl ?_; refine listF_abs (fun s29 z' => ?_); replace sl0 := gs 0 z' sl0; replace sl1 := gs 1 z' sl1; replace sl5 := gs 5 z' sl5; replace sl9 := gs 9 z' sl9; replace sl10 := gs 10 z' sl10; replace sl11 := gs 11 z' sl11; replace sl13 := gs 13 z' sl13; have sl74 := gu 74 z'; clear z' sl66; refine listF_nil ?_
    repeat ((fail_if_success refine stp ?_); with_reducible go_step)
    refine cond_f ?_
    repeat ((fail_if_success refine stp ?_); with_reducible go_step)
    refine region_F ?_; refine pl ?_; refine listF_abs (fun s30 z' => ?_); replace sl0 := gs 0 z' sl0; replace sl1 := gs 1 z' sl1; replace sl5 := gs 5 z' sl5; replace sl9 := gs 9 z' sl9; replace sl10 := gs 10 z' sl10; replace sl11 := gs 11 z' sl11; replace sl13 := gs 13 z' sl13; have sl14 := gu 14 z'; clear z' sl74; refine listF_nil ?_
    repeat ((fail_if_success refine stp ?_); with_reducible go_step)
    refine region_F ?_; obtain ⟨NB2, hNB2⟩ : ∃ n, n = w27.heap.size := ⟨_, rfl⟩; have b5N2 := oB qb5 hNB2
    have hN20 : w27.heap.size ≤ NB2 := by omega
    have hpR := Nat.le_trans HLp.out.size hN20
    have hN2w : NB2 ≤ w27.heap.size := by omega
    clear hNB2; refine pl ?_; refine listF_abs (fun s31 z' => ?_); replace sl0 := gs 0 z' sl0; replace sl1 := gs 1 z' sl1; replace sl5 := gs 5 z' sl5; replace sl9 := gs 9 z' sl9; replace sl10 := gs 10 z' sl10; replace sl11 := gs 11 z' sl11; replace sl13 := gs 13 z' sl13; replace sl14 := gs 14 z' sl14; have sl15 := gu 15 z'; clear z'; refine listF_nil ?_
    repeat ((fail_if_success refine stp ?_); with_reducible go_step)
    have hc2_0 := hid sl0; have hc2_1 := hid sl1; have hc2_5 := hid sl5; have hc2_9 := hid sl9; have hc2_10 := hid sl10; have hc2_11 := hid sl11; have hc2_13 := hid sl13; refine loop_F (n := 127) (fun kJ sJ wJ => ∃ (n : Nat) (a14 : Option Addr) (c14 : Nat), kJ = xs.length - n ∧ sJ 14 = .slice a14 n c14 ∧ sJ 15 = .int .i64 (n : Int) ∧ sJ 0 = s31 0 ∧ sJ 1 = s31 1 ∧ sJ 5 = s31 5 ∧ sJ 9 = s31 9 ∧ sJ 10 = s31 10 ∧ sJ 11 = s31 11 ∧ sJ 13 = s31 13 ∧ OldB [] w27 wJ ∧ n ≤ xs.length ∧ Own boolc 1 4 NB2 wJ (Value.slice a14 n c14) (whU R.1 (i : Int) n)) ⟨0, none, 0, rfl, (by first | exact sl14 | (rw [sl14]; go_num) | (rw [sl14]; rfl)), (by first | exact sl15 | (rw [sl15]; go_num) | (rw [sl15]; rfl)), rfl, rfl, rfl, rfl, rfl, rfl, rfl, OldB.refl _ _, Nat.zero_le _, Own.nil _ _ _ _ _⟩ ?_; clear sl14 sl15; rintro kJ s32 w33 ⟨n, a14, c14, rfl, sl14, sl15, e0, e1, e5, e9, e10, e11, e13, hb34, hnl, hO14⟩; replace sl0 := e0.trans sl0; clear e0
    replace sl1 := e1.trans sl1; clear e1; replace sl5 := e5.trans sl5; clear e5; replace sl9 := e9.trans sl9; clear e9; replace sl10 := e10.trans sl10; clear e10; replace sl11 := e11.trans sl11; clear e11; replace sl13 := e13.trans sl13; clear e13; have hoJ := hb34; clear qb5; replace kb5 := kb5.oldB hb34 (by first | (simp; done) | (simp; omega)); replace hNBw := Nat.le_trans hNBw hb34.size; replace HLp := hid (HLp.out.more hb34 (by simp; try omega)); replace HL25 := hid (HL25.out.more hb34 (by simp; try omega)); replace hN2w := Nat.le_trans hN2w hb34.size; replace HB := hid (HB.out.more hb34 (by simp; try omega)); clear hb34; have qb5 := kb5.1; have HoJ := hid hoJ; clear hoJ; have HL35 := HoJ; clear HoJ
    repeat ((fail_if_success refine stp ?_); with_reducible go_step)
    refine region_F ?_
    iterate 4 refine pl ?_
    refine listF_abs (fun s36 z' => ?_); replace sl0 := gs 0 z' sl0; replace sl1 := gs 1 z' sl1; replace sl5 := gs 5 z' sl5; replace sl9 := gs 9 z' sl9; replace sl10 := gs 10 z' sl10; replace sl11 := gs 11 z' sl11; replace sl13 := gs 13 z' sl13; replace sl14 := gs 14 z' sl14; replace sl15 := gs 15 z' sl15; have sl78 := gu 78 z'; clear z'; refine listF_nil ?_
    repeat ((fail_if_success refine stp ?_); with_reducible go_step)
    refine cond_E sl78 (by decide) ?_ ?_ <;> (clear sl78; intro h78 sl78)
    ·skip
     have hn : n < xs.length := by simpa using h78
     have hni : (n : Int) < xs.length := by omega
     have hn20' : n < 20 := by have := Hxl.out; omega
     obtain ⟨y, hy⟩ : ∃ y, xs[n] = y := ⟨_, rfl⟩; obtain ⟨bp, op, hap, hbp, cp0⟩ := RdSls.ne (RdPlan.oldB Hp.out HLp.out).1 hn; subst hap; have Hyr := hid (show RdInts _ y.a y.l from (RdPlan.oldB Hp.out HLp.out).2 y (by rw [← hy]; exact List.getElem_mem hn))
     have hyl : hasU y.l (i : Int) y.l.length = hasU (R.1.getD n []) (i : Int) (R.1.getD n []).length := by rw [← Hx0.out, getD_get (by rw [List.length_map]; exact hn), List.getElem_map, hy]
     have hy240 : y.l.length ≤ 240 := by have h1 := repl_row (by rw [Hrk.out]; exact HR0.out) Hz.out n; rw [← Hx0.out, getD_get (by rw [List.length_map]; exact hn), List.getElem_map, hy] at h1; exact h1
     have HLy := hid (OldB.refl [] w33); have Hyl := hid hyl; have Hy := hid hy; clear hy hyl cp0
     repeat ((fail_if_success refine stp ?_); with_reducible go_step)
     refine region_F ?_; refine pl ?_; refine listF_abs (fun s37 z' => ?_); replace sl0 := gs 0 z' sl0; replace sl1 := gs 1 z' sl1; replace sl5 := gs 5 z' sl5; replace sl9 := gs 9 z' sl9; replace sl10 := gs 10 z' sl10; replace sl11 := gs 11 z' sl11; replace sl13 := gs 13 z' sl13; replace sl14 := gs 14 z' sl14; replace sl15 := gs 15 z' sl15; have sl16 := gu 16 z'; clear z' sl78; refine listF_nil ?_
     repeat ((fail_if_success refine stp ?_); with_reducible go_step)
     refine region_F ?_; refine pl ?_; refine listF_abs (fun s38 z' => ?_); replace sl0 := gs 0 z' sl0; replace sl1 := gs 1 z' sl1; replace sl5 := gs 5 z' sl5; replace sl9 := gs 9 z' sl9; replace sl10 := gs 10 z' sl10; replace sl11 := gs 11 z' sl11; replace sl13 := gs 13 z' sl13; replace sl14 := gs 14 z' sl14; replace sl15 := gs 15 z' sl15; replace sl16 := gs 16 z' sl16; have sl17 := gu 17 z'; clear z'; refine listF_nil ?_
     repeat ((fail_if_success refine stp ?_); with_reducible go_step)
     have hc3_0 := hid sl0; have hc3_1 := hid sl1; have hc3_5 := hid sl5; have hc3_9 := hid sl9; have hc3_10 := hid sl10; have hc3_11 := hid sl11; have hc3_13 := hid sl13; have hc3_14 := hid sl14; have hc3_15 := hid sl15; refine loop_F (n := 127) (fun kJ sJ wJ => ∃ (m : Nat), kJ = y.l.length - m ∧ sJ 16 = .bool (hasU y.l (i : Int) m) ∧ sJ 17 = .int .i64 (m : Int) ∧ sJ 0 = s38 0 ∧ sJ 1 = s38 1 ∧ sJ 5 = s38 5 ∧ sJ 9 = s38 9 ∧ sJ 10 = s38 10 ∧ sJ 11 = s38 11 ∧ sJ 13 = s38 13 ∧ sJ 14 = s38 14 ∧ sJ 15 = s38 15 ∧ OldB [] w33 wJ ∧ m ≤ y.l.length) ⟨0, rfl, (by first | exact sl16 | (rw [sl16]; go_num) | (rw [sl16]; rfl)), (by first | exact sl17 | (rw [sl17]; go_num) | (rw [sl17]; rfl)), rfl, rfl, rfl, rfl, rfl, rfl, rfl, rfl, rfl, OldB.refl _ _, Nat.zero_le _⟩ ?_; clear sl16 sl17; rintro kJ s39 w40 ⟨m, rfl, sl16, sl17, e0, e1, e5, e9, e10, e11, e13, e14, e15, hb41, hml⟩; replace sl0 := e0.trans sl0; clear e0; replace sl1 := e1.trans sl1; clear e1
     replace sl5 := e5.trans sl5; clear e5; replace sl9 := e9.trans sl9; clear e9; replace sl10 := e10.trans sl10; clear e10; replace sl11 := e11.trans sl11; clear e11; replace sl13 := e13.trans sl13; clear e13; replace sl14 := e14.trans sl14; clear e14; replace sl15 := e15.trans sl15; clear e15; have hoJ := hb41; clear qb5; replace kb5 := kb5.oldB hb41 (by first | (simp; done) | (simp; omega)); replace hNBw := Nat.le_trans hNBw hb41.size; replace HLp := hid (HLp.out.more hb41 (by simp; try omega)); replace HL25 := hid (HL25.out.more hb41 (by simp; try omega)); replace hN2w := Nat.le_trans hN2w hb41.size; replace HL35 := hid (HL35.out.more hb41 (by simp; try omega)); replace HLy := hid (HLy.out.more hb41 (by simp; try omega)); replace hO14 := Own.oldB hO14 hb41 (fun g hg => by have n0 := (World.ownsRow.lt hO14 g hg).1; first | (simp; done) | (simp; omega)); replace HB := hid (HB.out.more hb41 (by simp; try omega)); clear hb41; have qb5 := kb5.1
     have HoJ := hid hoJ; clear hoJ; have HL42 := HoJ; clear HoJ
     repeat ((fail_if_success refine stp ?_); with_reducible go_step)
     refine region_F ?_; have cp1 := RdSls.at1 (RdPlan.oldB Hp.out HLp.out).1 hn Hy.out
     iterate 7 refine pl ?_
     refine listF_abs (fun s43 z' => ?_); replace sl0 := gs 0 z' sl0; replace sl1 := gs 1 z' sl1; replace sl5 := gs 5 z' sl5; replace sl9 := gs 9 z' sl9; replace sl10 := gs 10 z' sl10; replace sl11 := gs 11 z' sl11; replace sl13 := gs 13 z' sl13; replace sl14 := gs 14 z' sl14; replace sl15 := gs 15 z' sl15; replace sl16 := gs 16 z' sl16; replace sl17 := gs 17 z' sl17; have sl87 := gu 87 z'; clear z'; refine listF_nil ?_
     repeat ((fail_if_success refine stp ?_); with_reducible go_step)
     refine cond_E sl87 (by decide) ?_ ?_ <;> (clear sl87; intro h87 sl87)
     ·skip
      have hm : m < y.l.length := by simpa using h87
      have hmi : (m : Int) < y.l.length := by omega
      obtain ⟨bq, oq, haq, hbq, cq⟩ := RdInts.ne (Rd.oldB Hyr.out HLy.out (by simp)) hm; obtain ⟨q, hq⟩ : ∃ z, y.l[m] = z := ⟨_, rfl⟩; rw [hq] at cq; have Hhs := hid (show hasU y.l (i : Int) (m + 1) = (hasU y.l (i : Int) m || decide (q = (i : Int))) by show (_ || decide (y.l.getD m 0 = _)) = _; rw [getD_get hm, hq]); clear hq
      repeat ((fail_if_success refine stp ?_); with_reducible go_step)
      refine region_F ?_; refine pl ?_; refine pl ?_; refine listF_abs (fun s44 z' => ?_); replace sl0 := gs 0 z' sl0; replace sl1 := gs 1 z' sl1; replace sl5 := gs 5 z' sl5; replace sl9 := gs 9 z' sl9; replace sl10 := gs 10 z' sl10; replace sl11 := gs 11 z' sl11; replace sl13 := gs 13 z' sl13; replace sl14 := gs 14 z' sl14; replace sl15 := gs 15 z' sl15; replace sl17 := gs 17 z' sl17; have sl91 := gu 91 z'; clear z' sl16 sl87
      refine boolG sl91 (fun sl91' h91 => ?_) (fun sl91' h91 => ?_) <;> (clear sl91; have sl91 := sl91'; clear sl91')
      ·skip
       refine pn true ?_
       refine pn true ?_
       refine pn true ?_
       refine pn true ?_
       refine pn true ?_
       refine pn true ?_
       refine pn true ?_; refine pn true ?_; refine pn true ?_; refine pl ?_; refine pl ?_; refine listF_abs (fun s45 z' => ?_); replace sl0 := gs 0 z' sl0; replace sl1 := gs 1 z' sl1; replace sl5 := gs 5 z' sl5; replace sl9 := gs 9 z' sl9; replace sl10 := gs 10 z' sl10; replace sl11 := gs 11 z' sl11; replace sl13 := gs 13 z' sl13; replace sl14 := gs 14 z' sl14; replace sl15 := gs 15 z' sl15; have sl16 := gu 16 z'; replace sl17 := gs 17 z' sl17; clear z' sl91; refine listF_nil ?_
       repeat ((fail_if_success refine stp ?_); with_reducible go_step)
       refine region_F ?_
       iterate 3 refine pl ?_
       refine listF_abs (fun s46 z' => ?_); replace sl0 := gs 0 z' sl0; replace sl1 := gs 1 z' sl1; replace sl5 := gs 5 z' sl5; replace sl9 := gs 9 z' sl9; replace sl10 := gs 10 z' sl10; replace sl11 := gs 11 z' sl11; replace sl13 := gs 13 z' sl13; replace sl14 := gs 14 z' sl14; replace sl15 := gs 15 z' sl15; replace sl16 := gs 16 z' sl16; replace sl17 := gu 17 z'; clear z'; refine listF_nil ?_
       repeat ((fail_if_success refine stp ?_); with_reducible go_step)
       refine ⟨_, _, rfl, ?_, m + 1, rfl, (by rw [sl16, Hhs.out, show hasU y.l (i : Int) m = true from h91]; rfl), (by first | (with_reducible exact sl17) | (rw [sl17]; (with_reducible go_num); done) | (rw [sl17, IntWalk.i64_in] <;> first | ((with_reducible go_num); done) | omega) | (rw [sl17]; go_num; done) | (rw [sl17]; simp; done) | (rw [sl17]; simp; omega)), (sl0.trans hc3_0.out.symm), (sl1.trans hc3_1.out.symm), (sl5.trans hc3_5.out.symm), (sl9.trans hc3_9.out.symm), (sl10.trans hc3_10.out.symm), (sl11.trans hc3_11.out.symm), (sl13.trans hc3_13.out.symm), (sl14.trans hc3_14.out.symm), (sl15.trans hc3_15.out.symm), HL42.out, by omega⟩
       omega
      ·skip
       iterate 9 refine py ?_
       refine pl ?_; refine pl ?_; refine listF_abs (fun s47 z' => ?_); replace sl0 := gs 0 z' sl0; replace sl1 := gs 1 z' sl1; replace sl5 := gs 5 z' sl5; replace sl9 := gs 9 z' sl9; replace sl10 := gs 10 z' sl10; replace sl11 := gs 11 z' sl11; replace sl13 := gs 13 z' sl13; replace sl14 := gs 14 z' sl14; replace sl15 := gs 15 z' sl15; have sl16 := gu 16 z'; replace sl17 := gs 17 z' sl17; have sl92 := gu 92 z'; have sl93 := gu 93 z'; have sl94 := gu 94 z'; have sl95 := gu 95 z'; have sl96 := gu 96 z'; have sl97 := gu 97 z'; have sl98 := gu 98 z'; have sl99 := gu 99 z'; have sl100 := gu 100 z'; clear z' sl91; refine listF_nil ?_
       repeat ((fail_if_success refine stp ?_); with_reducible go_step)
       refine region_F ?_
       iterate 3 refine pl ?_
       refine listF_abs (fun s48 z' => ?_); replace sl0 := gs 0 z' sl0; replace sl1 := gs 1 z' sl1; replace sl5 := gs 5 z' sl5; replace sl9 := gs 9 z' sl9; replace sl10 := gs 10 z' sl10; replace sl11 := gs 11 z' sl11; replace sl13 := gs 13 z' sl13; replace sl14 := gs 14 z' sl14; replace sl15 := gs 15 z' sl15; replace sl16 := gs 16 z' sl16; replace sl17 := gu 17 z'; replace sl92 := gs 92 z' sl92; replace sl93 := gs 93 z' sl93; replace sl94 := gs 94 z' sl94; replace sl95 := gs 95 z' sl95; replace sl96 := gs 96 z' sl96; replace sl97 := gs 97 z' sl97; replace sl98 := gs 98 z' sl98; replace sl99 := gs 99 z' sl99; replace sl100 := gs 100 z' sl100; clear z'; refine listF_nil ?_
       repeat ((fail_if_success refine stp ?_); with_reducible go_step)
       refine ⟨_, _, rfl, ?_, m + 1, rfl, (by rw [sl16, Hhs.out, show hasU y.l (i : Int) m = false from h91]; rfl), (by first | (with_reducible exact sl17) | (rw [sl17]; (with_reducible go_num); done) | (rw [sl17, IntWalk.i64_in] <;> first | ((with_reducible go_num); done) | omega) | (rw [sl17]; go_num; done) | (rw [sl17]; simp; done) | (rw [sl17]; simp; omega)), (sl0.trans hc3_0.out.symm), (sl1.trans hc3_1.out.symm), (sl5.trans hc3_5.out.symm), (sl9.trans hc3_9.out.symm), (sl10.trans hc3_10.out.symm), (sl11.trans hc3_11.out.symm), (sl13.trans hc3_13.out.symm), (sl14.trans hc3_14.out.symm), (sl15.trans hc3_15.out.symm), HL42.out, by omega⟩
       omega
     ·skip
      have hm : m = y.l.length := by have h := h87; simp at h; omega
      rw [hm] at sl16; clear hm; clear HLy
      repeat ((fail_if_success refine stp ?_); with_reducible go_step)
      clear HL42; clear hc3_0 hc3_1 hc3_5 hc3_9 hc3_10 hc3_11 hc3_13 hc3_14 hc3_15; refine region_F ?_; refine pl ?_; refine pl ?_; refine pas (fun w49 B104 hB kb104' hb50 => ?_); have gb104 := HB.out.gB hB; have lHL25_b104 := HL25.out.gB hB; have lHL35_b104 := HL35.out.gB hB; have ob5_b104 := oB qb5 hB
      have nhO14_b104 : ∀ g, (Value.slice a14 n c14).ownBlock = some g → g < B104 := fun g hg => by have := (World.ownsRow.lt hO14 g hg).2; omega
      have eb104 := eB hB; clear hB; clear qb5; replace kb5 := kb5.at hb50; replace hNBw := Nat.le_trans hNBw hb50.size; replace HLp := hid (HLp.out.below hb50); replace HL25 := hid (HL25.out.below hb50); replace hN2w := Nat.le_trans hN2w hb50.size; replace HL35 := hid (HL35.out.below hb50); replace hO14 := Own.at hO14 hb50; replace HB := hid (HB.out.below hb50); clear hb50; have qb5 := kb5.1; have kb104 := kb104'; clear kb104'; have qb104 := kb104.1
      have ab5 : (Value.slice a14 n c14).ownBlock ≠ some B5 := fun e => by have n0 := (World.ownsRow.lt hO14 B5 e).1; omega
      have ab104 : (Value.slice a14 n c14).ownBlock ≠ some B104 := fun e => by have n0 := (World.ownsRow.lt hO14 B104 e).1; have n9 := nhO14_b104 B104 e; omega
      have hzz := HB.out.size; refine listF_step rfl (fun K' hK => ?_); refine opF_app (d := 105) rfl (by decide) (.tmp 102) (.tmp 104) _ rfl 4 i1 _ 1 Try.underlying88 hi1 hz1 hy1 hx1 rfl (by decide) (fun _ => rfl) bool_one NB2 (Value.slice a14 n c14) (whU R.1 (i : Int) n) [(hasU y.l (i : Int) y.l.length)] (some ⟨B104, 0, none⟩) 1 (by go_simp) (by go_simp) hO14 (Cells.rd (f := boolc) (m := 1) (l := [(hasU y.l (i : Int) y.l.length)]) (fun _ => rfl) kb104) (by unfold maxLen; rw [whU_len]; simp; omega) (by rw [whU_len]; simp; omega) (by omega) (fun v105 w51 hO' hG hV => hK _ _ ?_); clear hK K' hzz; clear qb5 qb104; replace kb5 := kb5.grown hG ab5; clear ab5; replace kb104 := kb104.grown hG ab104; clear ab104; replace hNBw := Nat.le_trans hNBw hG.size; replace HLp := hid (HLp.out.grown hG (fun k hk => .inl (by have := (World.ownsRow.lt hO14 k hk).1; omega))); replace HL25 := hid (HL25.out.grown hG (fun k hk => .inl (by have := (World.ownsRow.lt hO14 k hk).1; omega)))
      replace hN2w := Nat.le_trans hN2w hG.size; replace HL35 := hid (HL35.out.grown hG (fun k hk => .inl (by have := (World.ownsRow.lt hO14 k hk).1; omega))); replace HB := hid (HB.out.grown hG (fun k hk => .inl (by have := (World.ownsRow.lt hO14 k hk).1; omega))); clear hO14; have hO14 := hO'; clear hO' hG hV; clear nhO14_b104; have qb5 := kb5.1; have qb104 := kb104.1; rw [Hyl.out, ← whU_succ] at hO14; obtain ⟨a14', c14', rfl, hr9, hn9⟩ := Own.slice (f := boolc) (m := 1) (fun _ => rfl) hO14; clear hr9 hn9; rw [whU_len] at hO14 ⊢; refine pl ?_; refine listF_abs (fun s52 z' => ?_); replace sl0 := gs 0 z' sl0; replace sl1 := gs 1 z' sl1; replace sl5 := gs 5 z' sl5; replace sl9 := gs 9 z' sl9; replace sl10 := gs 10 z' sl10; replace sl11 := gs 11 z' sl11; replace sl13 := gs 13 z' sl13; replace sl14 := gu 14 z'; replace sl15 := gs 15 z' sl15; clear z' sl16 sl17 sl87; refine listF_nil ?_
      repeat ((fail_if_success refine stp ?_); with_reducible go_step)
      refine region_F ?_
      iterate 3 refine pl ?_
      refine listF_abs (fun s53 z' => ?_); replace sl0 := gs 0 z' sl0; replace sl1 := gs 1 z' sl1; replace sl5 := gs 5 z' sl5; replace sl9 := gs 9 z' sl9; replace sl10 := gs 10 z' sl10; replace sl11 := gs 11 z' sl11; replace sl13 := gs 13 z' sl13; replace sl14 := gs 14 z' sl14; replace sl15 := gu 15 z'; clear z'; refine listF_nil ?_
      repeat ((fail_if_success refine stp ?_); with_reducible go_step)
      refine ⟨_, _, rfl, ?_, n + 1, a14', c14', rfl, (by first | (with_reducible exact sl14) | (rw [sl14]; (with_reducible go_num); done) | (rw [sl14, IntWalk.i64_in] <;> first | ((with_reducible go_num); done) | omega) | (rw [sl14]; go_num; done) | (rw [sl14]; simp; done) | (rw [sl14]; simp; omega)), (by first | (with_reducible exact sl15) | (rw [sl15]; (with_reducible go_num); done) | (rw [sl15, IntWalk.i64_in] <;> first | ((with_reducible go_num); done) | omega) | (rw [sl15]; go_num; done) | (rw [sl15]; simp; done) | (rw [sl15]; simp; omega)), (sl0.trans hc2_0.out.symm), (sl1.trans hc2_1.out.symm), (sl5.trans hc2_5.out.symm), (sl9.trans hc2_9.out.symm), (sl10.trans hc2_10.out.symm), (sl11.trans hc2_11.out.symm), (sl13.trans hc2_13.out.symm), HL35.out, by omega, hO14⟩
      omega
    ·skip
     have hn : n = ns.length := by have := Hxl.out; have h := h78; simp at h; omega
     obtain ⟨ws, hws⟩ : ∃ l, whU R.1 (i : Int) ns.length = l := ⟨_, rfl⟩
     have hwl : ws.length = ns.length := by rw [← hws, whU_len]
     have Hwl := hid hwl; have Hfail := hid (show failB x.k lw ns ws f u (strS x.k lw f) = false by rw [← hws]; exact HF.out); rw [hn, hws, ← hwl] at hO14; rw [hn, ← hwl] at sl14; clear hws hwl
     repeat ((fail_if_success refine stp ?_); with_reducible go_step)
     clear HL35; clear hc2_0 hc2_1 hc2_5 hc2_9 hc2_10 hc2_11 hc2_13; clear qb5; have Hbl := hid (Below.refl w33.heap.size w33); have Hks28 := hid (RdKinds.oldB HRk.out HB.out); have Hx28 := hid (Hks28.out.inn x (by rw [← Hx.out]; exact List.getElem_mem hi)); have Hn28 := hid (Rd.oldB HRn.out HB.out (by simp)); have Hb28 := hid (Own.rd' (f := boolc) (m := 1) (fun _ => rfl) hO14 rfl); have Hw28 := hid (Rd.oldB HRw.out HB.out (by simp)); refine cut_any (fun sJ wJ => sJ 0 = .slice (some ⟨b, off, none⟩) ks.length cr ∧ sJ 1 = .slice an ns.length cn ∧ sJ 5 = .pointer (some ⟨B5, 0, none⟩) ∧ sJ 9 = .int .i64 (f : Int) ∧ sJ 10 = .int .i64 (u : Int) ∧ sJ 11 = .slice ap xs.length cp ∧ sJ 13 = .int .i64 (i : Int) ∧ sJ 125 = .bool false ∧ Below w33.heap.size w33 wJ) ?_ ?_
     · refine regionI_F (fun (LJ : Nat → Bool) (sJ : Nat → Value) (wJ : World) => Cells wJ B5 [.int .u16 xf, .int .u16 xu, .slice aw lw.length cw, .slice ab nb cb] ∧ Below w33.heap.size w33 wJ ∧ w33.heap.size ≤ wJ.heap.size ∧ sJ 0 = .slice (some ⟨b, off, none⟩) ks.length cr ∧ sJ 1 = .slice an ns.length cn ∧ sJ 5 = .pointer (some ⟨B5, 0, none⟩) ∧ sJ 9 = .int .i64 (f : Int) ∧ sJ 10 = .int .i64 (u : Int) ∧ sJ 11 = .slice ap xs.length cp ∧ sJ 13 = .int .i64 (i : Int) ∧ sJ 14 = .slice a14 ws.length c14 ∧ (LJ 0 = true → sJ 106 = .slice (some ⟨b, off, none⟩) ks.length cr) ∧ (LJ 1 = true → sJ 107 = .int .i64 (i : Int)) ∧ (LJ 2 = true → sJ 108 = .pointer (some ⟨b, off + i * 4, none⟩)) ∧ (LJ 3 = true → sJ 109 = .agg #[.int .i64 x.k.new, .int .i64 x.k.wear.lo, .int .i64 x.k.wear.hi, .slice x.a x.k.steps.length x.c]) ∧ (LJ 4 = true → sJ 110 = .slice (some ⟨b, off, none⟩) ks.length cr) ∧ (LJ 5 = true → sJ 111 = .int .i64 (i : Int)) ∧ (LJ 6 = true → sJ 112 = .pointer (some ⟨b, off + i * 4, none⟩)) ∧ (LJ 7 = true → sJ 113 = .agg #[.int .i64 x.k.new, .int .i64 x.k.wear.lo, .int .i64 x.k.wear.hi, .slice x.a x.k.steps.length x.c]) ∧ (LJ 8 = true → sJ 114 = .pointer (some ⟨B5, 2, none⟩)) ∧ (LJ 9 = true → sJ 115 = .slice aw lw.length cw) ∧ (LJ 10 = true → sJ 116 = .agg #[.slice none 0 0, .slice none 0 0, .int .u16 0, .slice aw lw.length cw]) ∧ (LJ 11 = true → sJ 117 = .int .i64 (f : Int)) ∧ (LJ 13 = true → sJ 119 = .slice an ns.length cn) ∧ (LJ 14 = true → sJ 120 = .slice a14 ws.length c14) ∧ (LJ 15 = true → sJ 121 = .int .i64 (f : Int)) ∧ (LJ 16 = true → sJ 122 = .int .i64 (u : Int)) ∧ (LJ 17 = true → sJ 123 = .pointer (some ⟨B5, 2, none⟩)) ∧ (LJ 18 = true → sJ 124 = .slice aw lw.length cw) ∧ (LJ 19 = true → sJ 125 = .bool false) ∧ (LJ 12 = true → Own int1 1 3 w33.heap.size wJ (sJ 118) (LL x.k lw (f + 1)))) (by kernel_rfl) (by kernel_rfl) (by kernel_rfl) ?_ ?_ ⟨?_, ?_, ?_, ?_, ?_, ?_, ?_, ?_, ?_, ?_, ?_, ?_, ?_, ?_, ?_, ?_, ?_, ?_, ?_, ?_, trivial⟩
       · refine ⟨(by repeat (first | (with_reducible exact kb5) | (with_reducible refine Cells.drew ?_) | (with_reducible refine Cells.up ?_ _) | (with_reducible refine Cells.setFar ?_ (by omega)))), (by repeat (first | (with_reducible exact Hbl.out) | (with_reducible refine bdrewN ?_ _) | (with_reducible refine Below.drew ?_) | (with_reducible refine Below.setCell ?_ (by first | omega | (simp; done) | (simp; omega)) _) | (with_reducible refine Below.alloc ?_ (by first | omega | (simp; done) | (simp; omega)) _))), (by first | omega | (simp; done) | (simp; omega)), ?_, ?_, ?_, ?_, ?_, ?_, ?_, ?_, (by simp), (by simp), (by simp), (by simp), (by simp), (by simp), (by simp), (by simp), (by simp), (by simp), (by simp), (by simp), (by simp), (by simp), (by simp), (by simp), (by simp), (by simp), (by simp), (by simp)⟩
         · go_simp
         · go_simp
         · go_simp
         · go_simp
         · go_simp
         · go_simp
         · go_simp
         · go_simp
       · rintro sJ wJ ⟨kB0, kLow, kSz, hs0, hs1, hs5, hs9, hs10, hs11, hs13, hs14, hv0, hv1, hv2, hv3, hv4, hv5, hv6, hv7, hv8, hv9, hv10, hv11, hv13, hv14, hv15, hv16, hv17, hv18, hv19, kW12⟩
         replace hv0 := hv0 (by simp); replace hv1 := hv1 (by simp); replace hv2 := hv2 (by simp); replace hv3 := hv3 (by simp); replace hv4 := hv4 (by simp); replace hv5 := hv5 (by simp); replace hv6 := hv6 (by simp); replace hv7 := hv7 (by simp); replace hv8 := hv8 (by simp); replace hv9 := hv9 (by simp); replace hv10 := hv10 (by simp); replace hv11 := hv11 (by simp); replace hv13 := hv13 (by simp); replace hv14 := hv14 (by simp); replace hv15 := hv15 (by simp); replace hv16 := hv16 (by simp); replace hv17 := hv17 (by simp); replace hv18 := hv18 (by simp); replace hv19 := hv19 (by simp); replace kW12 := kW12 (by simp); exact ⟨rfl, _, rfl, hs0, hs1, hs5, hs9, hs10, hs11, hs13, hv19, kLow⟩
       · rintro LJ sJ wJ hL hd ⟨kB0, kLow, kSz, hs0, hs1, hs5, hs9, hs10, hs11, hs13, hs14, hv0, hv1, hv2, hv3, hv4, hv5, hv6, hv7, hv8, hv9, hv10, hv11, hv13, hv14, hv15, hv16, hv17, hv18, hv19, kW12⟩ K hK
         clear hd; rw [if_pos (by rfl)]; unfold opF; go_simp
         refine hK _ _ ⟨?_, ?_, ?_, ?_, ?_, ?_, ?_, ?_, ?_, ?_, ?_, ?_, ?_, ?_, ?_, ?_, ?_, ?_, ?_, ?_, ?_, ?_, ?_, ?_, ?_, ?_, ?_, ?_, ?_, ?_, ?_⟩ <;> first | assumption | (simp [upd, updS]; done) | (simp [upd, updS]; assumption)
       · rintro LJ sJ wJ hL hd ⟨kB0, kLow, kSz, hs0, hs1, hs5, hs9, hs10, hs11, hs13, hs14, hv0, hv1, hv2, hv3, hv4, hv5, hv6, hv7, hv8, hv9, hv10, hv11, hv13, hv14, hv15, hv16, hv17, hv18, hv19, kW12⟩ K hK
         clear hd; rw [if_pos (by rfl)]; unfold opF; go_simp
         refine hK _ _ ⟨?_, ?_, ?_, ?_, ?_, ?_, ?_, ?_, ?_, ?_, ?_, ?_, ?_, ?_, ?_, ?_, ?_, ?_, ?_, ?_, ?_, ?_, ?_, ?_, ?_, ?_, ?_, ?_, ?_, ?_, ?_⟩ <;> first | assumption | (simp [upd, updS]; done) | (simp [upd, updS]; assumption)
       · rintro LJ sJ wJ hL hd ⟨kB0, kLow, kSz, hs0, hs1, hs5, hs9, hs10, hs11, hs13, hs14, hv0, hv1, hv2, hv3, hv4, hv5, hv6, hv7, hv8, hv9, hv10, hv11, hv13, hv14, hv15, hv16, hv17, hv18, hv19, kW12⟩ K hK
         have ga0 := hd ⟨0, .data⟩ (by simp) rfl; have gv0 := hv0 ga0; have ga1 := hd ⟨1, .data⟩ (by simp) rfl; have gv1 := hv1 ga1; clear hd; rw [if_pos (by rfl)]; unfold opF; go_simp
         refine hK _ _ ⟨?_, ?_, ?_, ?_, ?_, ?_, ?_, ?_, ?_, ?_, ?_, ?_, ?_, ?_, ?_, ?_, ?_, ?_, ?_, ?_, ?_, ?_, ?_, ?_, ?_, ?_, ?_, ?_, ?_, ?_, ?_⟩ <;> first | assumption | (simp [upd, updS]; done) | (simp [upd, updS]; assumption)
       · rintro LJ sJ wJ hL hd ⟨kB0, kLow, kSz, hs0, hs1, hs5, hs9, hs10, hs11, hs13, hs14, hv0, hv1, hv2, hv3, hv4, hv5, hv6, hv7, hv8, hv9, hv10, hv11, hv13, hv14, hv15, hv16, hv17, hv18, hv19, kW12⟩ K hK
         have ga2 := hd ⟨2, .data⟩ (by simp) rfl; have gv2 := hv2 ga2; clear hd; rw [if_pos (by rfl)]; unfold opF; obtain ⟨d0, d1, d2, d3⟩ := RdKr.at4 (Rd.at Hks28.out.rd kLow) hi Hx.out; go_simp
         refine hK _ _ ⟨?_, ?_, ?_, ?_, ?_, ?_, ?_, ?_, ?_, ?_, ?_, ?_, ?_, ?_, ?_, ?_, ?_, ?_, ?_, ?_, ?_, ?_, ?_, ?_, ?_, ?_, ?_, ?_, ?_, ?_, ?_⟩ <;> first | assumption | (simp [upd, updS]; done) | (simp [upd, updS]; assumption)
       · rintro LJ sJ wJ hL hd ⟨kB0, kLow, kSz, hs0, hs1, hs5, hs9, hs10, hs11, hs13, hs14, hv0, hv1, hv2, hv3, hv4, hv5, hv6, hv7, hv8, hv9, hv10, hv11, hv13, hv14, hv15, hv16, hv17, hv18, hv19, kW12⟩ K hK
         clear hd; rw [if_pos (by rfl)]; unfold opF; go_simp
         refine hK _ _ ⟨?_, ?_, ?_, ?_, ?_, ?_, ?_, ?_, ?_, ?_, ?_, ?_, ?_, ?_, ?_, ?_, ?_, ?_, ?_, ?_, ?_, ?_, ?_, ?_, ?_, ?_, ?_, ?_, ?_, ?_, ?_⟩ <;> first | assumption | (simp [upd, updS]; done) | (simp [upd, updS]; assumption)
       · rintro LJ sJ wJ hL hd ⟨kB0, kLow, kSz, hs0, hs1, hs5, hs9, hs10, hs11, hs13, hs14, hv0, hv1, hv2, hv3, hv4, hv5, hv6, hv7, hv8, hv9, hv10, hv11, hv13, hv14, hv15, hv16, hv17, hv18, hv19, kW12⟩ K hK
         clear hd; rw [if_pos (by rfl)]; unfold opF; go_simp
         refine hK _ _ ⟨?_, ?_, ?_, ?_, ?_, ?_, ?_, ?_, ?_, ?_, ?_, ?_, ?_, ?_, ?_, ?_, ?_, ?_, ?_, ?_, ?_, ?_, ?_, ?_, ?_, ?_, ?_, ?_, ?_, ?_, ?_⟩ <;> first | assumption | (simp [upd, updS]; done) | (simp [upd, updS]; assumption)
       · rintro LJ sJ wJ hL hd ⟨kB0, kLow, kSz, hs0, hs1, hs5, hs9, hs10, hs11, hs13, hs14, hv0, hv1, hv2, hv3, hv4, hv5, hv6, hv7, hv8, hv9, hv10, hv11, hv13, hv14, hv15, hv16, hv17, hv18, hv19, kW12⟩ K hK
         have ga4 := hd ⟨4, .data⟩ (by simp) rfl; have gv4 := hv4 ga4; have ga5 := hd ⟨5, .data⟩ (by simp) rfl; have gv5 := hv5 ga5; clear hd; rw [if_pos (by rfl)]; unfold opF; go_simp
         refine hK _ _ ⟨?_, ?_, ?_, ?_, ?_, ?_, ?_, ?_, ?_, ?_, ?_, ?_, ?_, ?_, ?_, ?_, ?_, ?_, ?_, ?_, ?_, ?_, ?_, ?_, ?_, ?_, ?_, ?_, ?_, ?_, ?_⟩ <;> first | assumption | (simp [upd, updS]; done) | (simp [upd, updS]; assumption)
       · rintro LJ sJ wJ hL hd ⟨kB0, kLow, kSz, hs0, hs1, hs5, hs9, hs10, hs11, hs13, hs14, hv0, hv1, hv2, hv3, hv4, hv5, hv6, hv7, hv8, hv9, hv10, hv11, hv13, hv14, hv15, hv16, hv17, hv18, hv19, kW12⟩ K hK
         have ga6 := hd ⟨6, .data⟩ (by simp) rfl; have gv6 := hv6 ga6; clear hd; rw [if_pos (by rfl)]; unfold opF; obtain ⟨d0, d1, d2, d3⟩ := RdKr.at4 (Rd.at Hks28.out.rd kLow) hi Hx.out; go_simp
         refine hK _ _ ⟨?_, ?_, ?_, ?_, ?_, ?_, ?_, ?_, ?_, ?_, ?_, ?_, ?_, ?_, ?_, ?_, ?_, ?_, ?_, ?_, ?_, ?_, ?_, ?_, ?_, ?_, ?_, ?_, ?_, ?_, ?_⟩ <;> first | assumption | (simp [upd, updS]; done) | (simp [upd, updS]; assumption)
       · rintro LJ sJ wJ hL hd ⟨kB0, kLow, kSz, hs0, hs1, hs5, hs9, hs10, hs11, hs13, hs14, hv0, hv1, hv2, hv3, hv4, hv5, hv6, hv7, hv8, hv9, hv10, hv11, hv13, hv14, hv15, hv16, hv17, hv18, hv19, kW12⟩ K hK
         clear hd; rw [if_pos (by rfl)]; unfold opF; go_simp
         refine hK _ _ ⟨?_, ?_, ?_, ?_, ?_, ?_, ?_, ?_, ?_, ?_, ?_, ?_, ?_, ?_, ?_, ?_, ?_, ?_, ?_, ?_, ?_, ?_, ?_, ?_, ?_, ?_, ?_, ?_, ?_, ?_, ?_⟩ <;> first | assumption | (simp [upd, updS]; done) | (simp [upd, updS]; assumption)
       · rintro LJ sJ wJ hL hd ⟨kB0, kLow, kSz, hs0, hs1, hs5, hs9, hs10, hs11, hs13, hs14, hv0, hv1, hv2, hv3, hv4, hv5, hv6, hv7, hv8, hv9, hv10, hv11, hv13, hv14, hv15, hv16, hv17, hv18, hv19, kW12⟩ K hK
         have ga8 := hd ⟨8, .data⟩ (by simp) rfl; have gv8 := hv8 ga8; clear hd; rw [if_pos (by rfl)]; unfold opF; have cc0_0 := kB0.cell 0 rfl; have cc0_1 := kB0.cell 1 rfl; have cc0_2 := kB0.cell 2 rfl; have cc0_3 := kB0.cell 3 rfl; have ccs0 := kB0.1; go_simp
         refine hK _ _ ⟨?_, ?_, ?_, ?_, ?_, ?_, ?_, ?_, ?_, ?_, ?_, ?_, ?_, ?_, ?_, ?_, ?_, ?_, ?_, ?_, ?_, ?_, ?_, ?_, ?_, ?_, ?_, ?_, ?_, ?_, ?_⟩ <;> first | assumption | (simp [upd, updS]; done) | (simp [upd, updS]; assumption)
       · rintro LJ sJ wJ hL hd ⟨kB0, kLow, kSz, hs0, hs1, hs5, hs9, hs10, hs11, hs13, hs14, hv0, hv1, hv2, hv3, hv4, hv5, hv6, hv7, hv8, hv9, hv10, hv11, hv13, hv14, hv15, hv16, hv17, hv18, hv19, kW12⟩ K hK
         have ga9 := hd ⟨9, .data⟩ (by simp) rfl; have gv9 := hv9 ga9; clear hd; rw [if_pos (by rfl)]; unfold opF; go_simp
         refine hK _ _ ⟨?_, ?_, ?_, ?_, ?_, ?_, ?_, ?_, ?_, ?_, ?_, ?_, ?_, ?_, ?_, ?_, ?_, ?_, ?_, ?_, ?_, ?_, ?_, ?_, ?_, ?_, ?_, ?_, ?_, ?_, ?_⟩ <;> first | assumption | (simp [upd, updS]; done) | (simp [upd, updS]; assumption)
       · rintro LJ sJ wJ hL hd ⟨kB0, kLow, kSz, hs0, hs1, hs5, hs9, hs10, hs11, hs13, hs14, hv0, hv1, hv2, hv3, hv4, hv5, hv6, hv7, hv8, hv9, hv10, hv11, hv13, hv14, hv15, hv16, hv17, hv18, hv19, kW12⟩ K hK
         clear hd; rw [if_pos (by rfl)]; unfold opF; go_simp
         refine hK _ _ ⟨?_, ?_, ?_, ?_, ?_, ?_, ?_, ?_, ?_, ?_, ?_, ?_, ?_, ?_, ?_, ?_, ?_, ?_, ?_, ?_, ?_, ?_, ?_, ?_, ?_, ?_, ?_, ?_, ?_, ?_, ?_⟩ <;> first | assumption | (simp [upd, updS]; done) | (simp [upd, updS]; assumption)
       · rintro LJ sJ wJ hL hd ⟨kB0, kLow, kSz, hs0, hs1, hs5, hs9, hs10, hs11, hs13, hs14, hv0, hv1, hv2, hv3, hv4, hv5, hv6, hv7, hv8, hv9, hv10, hv11, hv13, hv14, hv15, hv16, hv17, hv18, hv19, kW12⟩ K hK
         have ga7 := hd ⟨7, .data⟩ (by simp) rfl; have gv7 := hv7 ga7; have ga10 := hd ⟨10, .data⟩ (by simp) rfl; have gv10 := hv10 ga10; have ga11 := hd ⟨11, .data⟩ (by simp) rfl; have gv11 := hv11 ga11; clear hd; rw [if_pos (by rfl)]; unfold opF; go_simp; refine (lived_any2 x.k x.a x.c none none 0 0 0 0 0 aw cw lw f _ HK.out (Rd.at Hw28.out kLow) hlw HU.out (by omega)).mono ?_; rintro e wN ⟨vN, rfl, hO, hbN⟩; have hsN := hbN.size; exact ⟨_, rfl, hK _ _ ⟨(Cells.at (kB0) hbN), (kLow.trans (hbN.mono kSz)), (by first | omega | (simp; done) | (simp; omega) | (have := hG.size; omega)), (by simpa [upd, updS] using hs0), (by simpa [upd, updS] using hs1), (by simpa [upd, updS] using hs5), (by simpa [upd, updS] using hs9), (by simpa [upd, updS] using hs10), (by simpa [upd, updS] using hs11), (by simpa [upd, updS] using hs13), (by simpa [upd, updS] using hs14), (by simpa [upd, updS] using hv0), (by simpa [upd, updS] using hv1), (by simpa [upd, updS] using hv2), (by simpa [upd, updS] using hv3), (by simpa [upd, updS] using hv4), (by simpa [upd, updS] using hv5), (by simpa [upd, updS] using hv6), (by simpa [upd, updS] using hv7), (by simpa [upd, updS] using hv8), (by simpa [upd, updS] using hv9), (by simpa [upd, updS] using hv10), (by simpa [upd, updS] using hv11), (by simpa [upd, updS] using hv13), (by simpa [upd, updS] using hv14), (by simpa [upd, updS] using hv15), (by simpa [upd, updS] using hv16), (by simpa [upd, updS] using hv17), (by simpa [upd, updS] using hv18), (by simpa [upd, updS] using hv19), (fun _ => by first | exact Own.base hO (by omega) | (simp only [updS_some, ↓reduceIte]; exact Own.base hO (by omega)) | (simpa [updS] using Own.base hO (by omega)))⟩⟩
       · rintro LJ sJ wJ hL hd ⟨kB0, kLow, kSz, hs0, hs1, hs5, hs9, hs10, hs11, hs13, hs14, hv0, hv1, hv2, hv3, hv4, hv5, hv6, hv7, hv8, hv9, hv10, hv11, hv13, hv14, hv15, hv16, hv17, hv18, hv19, kW12⟩ K hK
         clear hd; rw [if_pos (by rfl)]; unfold opF; go_simp
         refine hK _ _ ⟨?_, ?_, ?_, ?_, ?_, ?_, ?_, ?_, ?_, ?_, ?_, ?_, ?_, ?_, ?_, ?_, ?_, ?_, ?_, ?_, ?_, ?_, ?_, ?_, ?_, ?_, ?_, ?_, ?_, ?_, ?_⟩ <;> first | assumption | (simp [upd, updS]; done) | (simp [upd, updS]; assumption)
       · rintro LJ sJ wJ hL hd ⟨kB0, kLow, kSz, hs0, hs1, hs5, hs9, hs10, hs11, hs13, hs14, hv0, hv1, hv2, hv3, hv4, hv5, hv6, hv7, hv8, hv9, hv10, hv11, hv13, hv14, hv15, hv16, hv17, hv18, hv19, kW12⟩ K hK
         clear hd; rw [if_pos (by rfl)]; unfold opF; go_simp
         refine hK _ _ ⟨?_, ?_, ?_, ?_, ?_, ?_, ?_, ?_, ?_, ?_, ?_, ?_, ?_, ?_, ?_, ?_, ?_, ?_, ?_, ?_, ?_, ?_, ?_, ?_, ?_, ?_, ?_, ?_, ?_, ?_, ?_⟩ <;> first | assumption | (simp [upd, updS]; done) | (simp [upd, updS]; assumption)
       · rintro LJ sJ wJ hL hd ⟨kB0, kLow, kSz, hs0, hs1, hs5, hs9, hs10, hs11, hs13, hs14, hv0, hv1, hv2, hv3, hv4, hv5, hv6, hv7, hv8, hv9, hv10, hv11, hv13, hv14, hv15, hv16, hv17, hv18, hv19, kW12⟩ K hK
         clear hd; rw [if_pos (by rfl)]; unfold opF; go_simp
         refine hK _ _ ⟨?_, ?_, ?_, ?_, ?_, ?_, ?_, ?_, ?_, ?_, ?_, ?_, ?_, ?_, ?_, ?_, ?_, ?_, ?_, ?_, ?_, ?_, ?_, ?_, ?_, ?_, ?_, ?_, ?_, ?_, ?_⟩ <;> first | assumption | (simp [upd, updS]; done) | (simp [upd, updS]; assumption)
       · rintro LJ sJ wJ hL hd ⟨kB0, kLow, kSz, hs0, hs1, hs5, hs9, hs10, hs11, hs13, hs14, hv0, hv1, hv2, hv3, hv4, hv5, hv6, hv7, hv8, hv9, hv10, hv11, hv13, hv14, hv15, hv16, hv17, hv18, hv19, kW12⟩ K hK
         clear hd; rw [if_pos (by rfl)]; unfold opF; go_simp
         refine hK _ _ ⟨?_, ?_, ?_, ?_, ?_, ?_, ?_, ?_, ?_, ?_, ?_, ?_, ?_, ?_, ?_, ?_, ?_, ?_, ?_, ?_, ?_, ?_, ?_, ?_, ?_, ?_, ?_, ?_, ?_, ?_, ?_⟩ <;> first | assumption | (simp [upd, updS]; done) | (simp [upd, updS]; assumption)
       · rintro LJ sJ wJ hL hd ⟨kB0, kLow, kSz, hs0, hs1, hs5, hs9, hs10, hs11, hs13, hs14, hv0, hv1, hv2, hv3, hv4, hv5, hv6, hv7, hv8, hv9, hv10, hv11, hv13, hv14, hv15, hv16, hv17, hv18, hv19, kW12⟩ K hK
         clear hd; rw [if_pos (by rfl)]; unfold opF; go_simp
         refine hK _ _ ⟨?_, ?_, ?_, ?_, ?_, ?_, ?_, ?_, ?_, ?_, ?_, ?_, ?_, ?_, ?_, ?_, ?_, ?_, ?_, ?_, ?_, ?_, ?_, ?_, ?_, ?_, ?_, ?_, ?_, ?_, ?_⟩ <;> first | assumption | (simp [upd, updS]; done) | (simp [upd, updS]; assumption)
       · rintro LJ sJ wJ hL hd ⟨kB0, kLow, kSz, hs0, hs1, hs5, hs9, hs10, hs11, hs13, hs14, hv0, hv1, hv2, hv3, hv4, hv5, hv6, hv7, hv8, hv9, hv10, hv11, hv13, hv14, hv15, hv16, hv17, hv18, hv19, kW12⟩ K hK
         have ga17 := hd ⟨17, .data⟩ (by simp) rfl; have gv17 := hv17 ga17; clear hd; rw [if_pos (by rfl)]; unfold opF; have cc0_0 := kB0.cell 0 rfl; have cc0_1 := kB0.cell 1 rfl; have cc0_2 := kB0.cell 2 rfl; have cc0_3 := kB0.cell 3 rfl; have ccs0 := kB0.1; go_simp
         refine hK _ _ ⟨?_, ?_, ?_, ?_, ?_, ?_, ?_, ?_, ?_, ?_, ?_, ?_, ?_, ?_, ?_, ?_, ?_, ?_, ?_, ?_, ?_, ?_, ?_, ?_, ?_, ?_, ?_, ?_, ?_, ?_, ?_⟩ <;> first | assumption | (simp [upd, updS]; done) | (simp [upd, updS]; assumption)
       · rintro LJ sJ wJ hL hd ⟨kB0, kLow, kSz, hs0, hs1, hs5, hs9, hs10, hs11, hs13, hs14, hv0, hv1, hv2, hv3, hv4, hv5, hv6, hv7, hv8, hv9, hv10, hv11, hv13, hv14, hv15, hv16, hv17, hv18, hv19, kW12⟩ K hK
         have ga3 := hd ⟨3, .data⟩ (by simp) rfl; have gv3 := hv3 ga3; have ga12 := hd ⟨12, .data⟩ (by simp) rfl; have ga13 := hd ⟨13, .data⟩ (by simp) rfl; have gv13 := hv13 ga13; have ga14 := hd ⟨14, .data⟩ (by simp) rfl; have gv14 := hv14 ga14; have ga15 := hd ⟨15, .data⟩ (by simp) rfl; have gv15 := hv15 ga15; have ga16 := hd ⟨16, .data⟩ (by simp) rfl; have gv16 := hv16 ga16; have ga18 := hd ⟨18, .data⟩ (by simp) rfl; have gv18 := hv18 ga18; have ga12 := hd ⟨12, .chain⟩ (by simp) rfl; clear hd; rw [if_pos (by rfl)]; have kU12 := kW12 ga12; obtain ⟨au12, cu12, hvu12, hru12, hnu12⟩ := Own.slice (f := int1) (m := 1) (fun _ => rfl) kU12; unfold opF; go_simp; refine (failed_ff x.k x.a x.c au12 cu12 (LL x.k lw (f + 1)) an cn ns a14 c14 ws f u aw cw lw (strS x.k lw f) _ Hfail.out HK.out (KdIn.at Hx28.out kLow).2.2 hru12 (by rw [LL_len]; omega) (by rw [List.getD_eq_getElem?_getD, LL_get (by omega)]; rfl) (str_bd HK.out _ _) (Rd.at Hn28.out kLow) (by omega) (Rd.at Hb28.out kLow) Hwl.out hfu (by omega) (Rd.at Hw28.out kLow) hlw HU.out).mono ?_
         rintro e wN ⟨rfl, hbN⟩; have hsN := hbN.size; exact ⟨_, rfl, hK _ _ ⟨(Cells.at (kB0) hbN), (kLow.trans (hbN.mono kSz)), (by first | omega | (simp; done) | (simp; omega) | (have := hG.size; omega)), (by simpa [upd, updS] using hs0), (by simpa [upd, updS] using hs1), (by simpa [upd, updS] using hs5), (by simpa [upd, updS] using hs9), (by simpa [upd, updS] using hs10), (by simpa [upd, updS] using hs11), (by simpa [upd, updS] using hs13), (by simpa [upd, updS] using hs14), (by simpa [upd, updS] using hv0), (by simpa [upd, updS] using hv1), (by simpa [upd, updS] using hv2), (by simpa [upd, updS] using hv3), (by simpa [upd, updS] using hv4), (by simpa [upd, updS] using hv5), (by simpa [upd, updS] using hv6), (by simpa [upd, updS] using hv7), (by simpa [upd, updS] using hv8), (by simpa [upd, updS] using hv9), (by simpa [upd, updS] using hv10), (by simpa [upd, updS] using hv11), (by simpa [upd, updS] using hv13), (by simpa [upd, updS] using hv14), (by simpa [upd, updS] using hv15), (by simpa [upd, updS] using hv16), (by simpa [upd, updS] using hv17), (by simpa [upd, updS] using hv18), (by simp [upd, updS]), (fun h1 => by have h1 := (by simpa [upd] using h1 : LJ 12 = true); simpa [updS] using Own.at (kW12 h1) hbN)⟩⟩
     rintro sM28 w54 ⟨e0, e1, e5, e9, e10, e11, e13, sl125', hbM28⟩; clear sl0 sl1 sl5 sl9 sl10 sl11 sl13 sl14 sl15 sl78; have sl0 := e0; clear e0; have sl1 := e1; clear e1; have sl5 := e5; clear e5; have sl9 := e9; clear e9; have sl10 := e10; clear e10; have sl11 := e11; clear e11; have sl13 := e13; clear e13; have sl125 := sl125'; clear sl125'; replace kb5 := kb5.at hbM28; replace hNBw := Nat.le_trans hNBw hbM28.size; replace HLp := hid (HLp.out.below hbM28); replace HL25 := hid (HL25.out.below hbM28); replace hN2w := Nat.le_trans hN2w hbM28.size; replace hO14 := Own.at hO14 hbM28; replace HB := hid (HB.out.below hbM28); clear hbM28 Hbl; have qb5 := kb5.1
     repeat ((fail_if_success refine stp ?_); with_reducible go_step)
     refine cond_f ?_
     repeat ((fail_if_success refine stp ?_); with_reducible go_step)
     refine region_F ?_
     iterate 3 refine pl ?_
     refine listF_abs (fun s56 z' => ?_); replace sl0 := gs 0 z' sl0; replace sl1 := gs 1 z' sl1; replace sl5 := gs 5 z' sl5; replace sl9 := gs 9 z' sl9; replace sl10 := gs 10 z' sl10; replace sl11 := gs 11 z' sl11; replace sl13 := gu 13 z'; clear z' sl125; refine listF_nil ?_
     repeat ((fail_if_success refine stp ?_); with_reducible go_step)
     refine ⟨_, _, rfl, ?_, i + 1, rfl, (by first | (with_reducible exact sl13) | (rw [sl13]; (with_reducible go_num); done) | (rw [sl13, IntWalk.i64_in] <;> first | ((with_reducible go_num); done) | omega) | (rw [sl13]; go_num; done) | (rw [sl13]; simp; done) | (rw [sl13]; simp; omega)), (sl0.trans hc1_0.out.symm), (sl1.trans hc1_1.out.symm), (sl5.trans hc1_5.out.symm), (sl9.trans hc1_9.out.symm), (sl10.trans hc1_10.out.symm), (sl11.trans hc1_11.out.symm), HL25.out, by omega⟩
     omega
   ·skip
    repeat ((fail_if_success refine stp ?_); with_reducible go_step)
    clear HL25; clear hc1_0 hc1_1 hc1_5 hc1_9 hc1_10 hc1_11; refine region_F ?_; refine listF_step rfl (fun K' hK => ?_); unfold opF; go_simp; refine (awake_any _).mono ?_; rintro e w57 ⟨rfl, hb58⟩; refine ⟨_, rfl, hK _ _ ?_⟩; clear hK K'; clear qb5; replace kb5 := kb5.at hb58; replace hNBw := Nat.le_trans hNBw hb58.size; replace HLp := hid (HLp.out.below hb58); replace HB := hid (HB.out.below hb58); clear hb58; have qb5 := kb5.1; refine pl ?_; refine listF_abs (fun s59 z' => ?_); have sl6 := gu 6 z'; clear z' sl0 sl1 sl5 sl9 sl10 sl11 sl13 sl66; refine listF_nil ?_
    repeat ((fail_if_success refine stp ?_); with_reducible go_step)
    refine ret_F _ (res_t Try.results15 ((getD_F (by decide)).trans sl6)) ?_; exact ⟨rfl, HB.out.toBelow⟩
  ·skip
   have hzb : (R.2 != 0) = true := by simpa using hz
   have hx0' := Hx0.out
   have hR1 : R.1 = [] := by have h := rep_bad (rack := rk) (l := ns) (f := (f : Int)) (u := (u : Int)) (by rw [HR0.out]; exact hz); rw [HR0.out] at h; exact h
   rw [hR1] at hx0'; obtain rfl : xs = [] := List.map_eq_nil_iff.1 hx0'; refine region_F ?_; refine pl ?_; refine pl ?_; refine listF_abs (fun s60 z' => ?_); replace sl0 := gs 0 z' sl0; replace sl1 := gs 1 z' sl1; replace sl5 := gs 5 z' sl5; replace sl9 := gs 9 z' sl9; replace sl10 := gs 10 z' sl10; replace sl11 := gs 11 z' sl11; have sl51 := gu 51 z'; clear z' sl12; refine listF_nil ?_
   repeat ((fail_if_success refine stp ?_); with_reducible go_step)
   refine cond_t ?_
   repeat ((fail_if_success refine stp ?_); with_reducible go_step)
   refine region_F ?_
   iterate 4 refine pl ?_
   refine listF_yes rfl rfl (by decide) ?_ (fun K' hK => ?_); (focus (go_simp; done)); unfold opF; go_simp; refine (awake_any _).mono ?_; rintro e w61 ⟨rfl, hb62⟩; refine ⟨_, rfl, hK _ _ ?_⟩; clear hK K'; clear qb5; replace kb5 := kb5.at hb62; replace hNBw := Nat.le_trans hNBw hb62.size; replace HLp := hid (HLp.out.below hb62); replace HB := hid (HB.out.below hb62); clear hb62; have qb5 := kb5.1; refine pl ?_; refine pl ?_; refine listF_abs (fun s63 z' => ?_); have sl6 := gu 6 z'; clear z' sl0 sl1 sl5 sl9 sl10 sl11 sl51; refine listF_nil ?_
   repeat ((fail_if_success refine stp ?_); with_reducible go_step)
   refine ret_F _ (res_t Try.results15 ((getD_F (by decide)).trans sl6)) ?_; exact ⟨rfl, HB.out.toBelow⟩

end Go.Proofs.Ytndcmmghgljinaa
