/- The reference's Replace. -/
import Derived.Test.YtndcmmghgljinaardW40
import Derived.Test.YtndcmmghgljinaardM10
set_option linter.all false
namespace Go.Proofs.Ytndcmmghgljinaa

open Go.RowKit


structure RpK (B j : Nat) (xs : List Sl) (a : Option Addr) (p : List Int) (NW : Nat) (W : World) : Prop where
  ox : OwnX (B + 1) j xs W
  rp : RdInts W a p
  sz : NW ≤ W.heap.size
theorem RpK.drew {B j : Nat} {xs : List Sl} {a : Option Addr} {p : List Int} {NW : Nat} {W : World} (h : RpK B j xs a p NW W) : RpK B j xs a p NW W.drew := ⟨h.ox, h.rp, h.sz⟩
theorem RpK.alloc {B j : Nat} {xs : List Sl} {a : Option Addr} {p : List Int} {NW : Nat} {W : World} (h : RpK B j xs a p NW W) (ob : Obj) : RpK B j xs a p NW (W.alloc ob) :=
  have hb : Below W.heap.size W (W.alloc ob) := (Below.refl _ _).alloc (Nat.le_refl _) _
  ⟨h.ox.alloc ob, Rd.at h.rp hb, Nat.le_trans h.sz hb.size⟩
theorem RpK.app {B j : Nat} {xs : List Sl} {bp op : Nat} {p : List Int} {NW : Nat} {W W' : World} (h : RpK B j xs (some ⟨bp, op, none⟩) p NW W) {hj : j < xs.length} (ap : ∀ i j (hi : i < xs.length) (hj : j < xs.length), i ≠ j → Apart xs[i].v xs[j].v) (hn : xs[j].v.ownBlock ≠ some bp) (hg : W.grownBy W' xs[j].v.ownBlock) : RpK B j xs (some ⟨bp, op, none⟩) p NW W' := by
  refine ⟨h.ox.grown (hj := hj) ap hg, ?_, Nat.le_trans h.sz hg.size⟩
  rcases h.rp with h1 | ⟨b, off, ha, hlt, hc⟩
  · exact .inl h1
  · cases ha
    exact .inr ⟨bp, op, rfl, Nat.lt_of_lt_of_le hlt hg.size, fun i x hi q v hv => (cell_block (hg.block bp hlt (fun e => hn e.symm))).trans (hc i x hi q v hv)⟩
theorem RpK.st {B j : Nat} {xs : List Sl} {bp op : Nat} {p : List Int} {NW : Nat} {W : World} (h : RpK B j xs (some ⟨bp, op, none⟩) p NW W) (hn : bp ≠ B) (q : Nat) (u : Value) : RpK B j xs (some ⟨bp, op, none⟩) p NW (W.setCell ⟨B, q, none⟩ u) := by
  refine ⟨h.ox.setLow (by omega) u, ?_, by rw [show (W.setCell ⟨B, q, none⟩ u).heap.size = W.heap.size by simp]; exact h.sz⟩; exact Rd.oldB (Bs := [B]) h.rp (OldB.set (OldB.refl _ _) (by simp)) (fun b hb => by cases hb; simpa using hn)
/-- what a plan's call hands back -/
def PlT (L10 L11 L13 : Bool) (v129 v119 v130 v20 : Value) (w : World) (N : Nat) (l : List Int) (b : Bool) : Prop :=
  ∃ a c, v129 = .tuple #[.slice a l.length c, .bool b] ∧ RdInts w a l ∧ (∀ x, a = some x → N ≤ x.block) ∧ (L10 = true → v119 = .tuple #[.slice a l.length c, .bool b]) ∧ (L11 = true → v130 = .slice a l.length c) ∧ (L13 = true → v20 = .slice a l.length c)
theorem PlT.at {L10 L11 L13 : Bool} {v129 v119 v130 v20 : Value} {w w' : World} {N : Nat} {l : List Int} {b : Bool} (h : PlT L10 L11 L13 v129 v119 v130 v20 w N l b) (hb : Below w.heap.size w w') : PlT L10 L11 L13 v129 v119 v130 v20 w' N l b := by
  obtain ⟨a, c, h1, h2, h3⟩ := h; exact ⟨a, c, h1, Rd.at h2 hb, h3⟩
theorem rplan_o (k : Kd) (a : Option Addr) (c : Nat) (an : Option Addr) (cn : Nat) (l : List Int) (can0 f u : Int) (w : World) (N : Nat) (hN : N ≤ w.heap.size) {P : List Int} {b : Bool} (hP : planLs (planR k l can0 f u) = P) (hb : (planR k l can0 f u).isSome = b) (hR : RdSteps w a k.steps) (hK : KOk k) (hRn : RdInts w an l) (hln : l.length ≤ 20) (hnb : ∀ x ∈ l, 0 ≤ x ∧ x ≤ 100000) :
    Calls Try.prog 65 #[.agg #[.int .i64 k.new, .int .i64 k.wear.lo, .int .i64 k.wear.hi, .slice a k.steps.length c], .slice an l.length cn, .int .i64 can0, .int .i64 f, .int .i64 u] w (fun e w' => ∃ v, e = .returned v ∧ PlT false false false v undef undef undef w' N P b ∧ Below w.heap.size w w') := by
  refine (rplan_any k a c an cn l can0 f u w hR hK hRn hln hnb).mono ?_; rintro e w' ⟨a', c', rfl, h1, h2, h3⟩; rw [hP] at h1 ⊢; rw [hb]; exact ⟨_, rfl, ⟨a', c', rfl, h1, fun x hx => Nat.le_trans hN (h3 x hx), fun h => (by cases h), fun h => (by cases h), fun h => (by cases h)⟩, h2⟩
theorem incr_nd {l : List Int} (h : ∀ i, (hi : i + 1 < l.length) → l[i] < l[i + 1]) : ndec l = true ∧ dups l = false := by
  refine ⟨ndec_iff.2 fun i hi => by have := h i hi; omega, ?_⟩
  cases hd : dups l with
  | false => rfl
  | true =>
    obtain ⟨i, hi, he⟩ := dups_iff.1 hd; have := h i hi
    omega
theorem not_incr {l : List Int} {i : Nat} (hi : i + 1 < l.length) (h : l[i + 1] ≤ l[i]) : ndec l = false ∨ dups l = true := by
  by_cases e : l[i + 1] = l[i]
  · exact .inr (dups_iff.2 ⟨i, hi, e.symm⟩)
  · refine .inl ?_
    cases hn : ndec l with
    | false => rfl
    | true => have := ndec_iff.1 hn i hi; omega


theorem PlanO.noav {base : Nat} {av : List Nat} {w : World} {xs : List Sl} (h : PlanO base av w xs) : PlanO base [] w xs := ⟨h.own, fun _ _ _ _ => by simp, h.ap⟩


theorem rfails_c (k : Kd) (a : Option Addr) (c : Nat) (s : Span) (t can lat : Int) (w : World) (hc : failsOf k s t = ⟨can, lat⟩) (hR : RdSteps w a k.steps) (hK : KOk k) (hs : spanIn s) (ht : 0 ≤ t ∧ t ≤ 100000) :
    Calls Try.prog 56 #[.agg #[.int .i64 k.new, .int .i64 k.wear.lo, .int .i64 k.wear.hi, .slice a k.steps.length c], .agg #[.int .i64 s.lo, .int .i64 s.hi], .int .i64 t] w (fun e w' => e = .returned (.agg #[.int .i64 can, .int .i64 lat]) ∧ Below w.heap.size w w') := by
  have := rfails_any k a c s t w hR hK hs ht; rw [hc] at this; exact this
theorem rd_at1 {w : World} {b off : Nat} {l : List Int} (h : RdInts w (some ⟨b, off, none⟩) l) {k : Nat} (hk : k < l.length) {y : Int} (hy : l[k] = y) : w.cell? ⟨b, off + k, none⟩ = some (.int .i64 y) := by
  subst hy; obtain ⟨b', o', ha, _, h1⟩ := RdInts.ne h hk
  cases ha
  exact h1
theorem rdvls_at {w : World} {b off : Nat} {l : List Vl} (h : RdVls w (some ⟨b, off, none⟩) l) {k : Nat} (hk : k < l.length) {x : Vl} (hx : l[k] = x) : b < w.heap.size ∧ w.cell? ⟨b, off + k * 5, none⟩ = some (.int .i64 x.k.new) ∧ w.cell? ⟨b, off + k * 5 + 1, none⟩ = some (.int .i64 x.k.wear.lo) ∧ w.cell? ⟨b, off + k * 5 + 2, none⟩ = some (.int .i64 x.k.wear.hi) ∧
    w.cell? ⟨b, off + k * 5 + 3, none⟩ = some (.slice x.a x.k.steps.length x.c) ∧ w.cell? ⟨b, off + k * 5 + 4, none⟩ = some (.slice x.ca x.cs.length x.cc) := by
  subst hx; obtain ⟨b', o', ha, hb, h1⟩ := RdVls.ne h hk
  cases ha
  exact ⟨hb, h1⟩
theorem take_one {l : List Int} {n : Nat} (hn : n < l.length) {y : Int} (hy : l[n] = y) : l.take (n + 1) = l.take n ++ [y] := by
  subst hy; rw [List.take_succ_eq_append_getElem hn]
theorem rasked_v (k : Kd) (a : Option Addr) (c : Nat) (ac : Option Addr) (cc : Nat) (cs : List MCk) (h : Int) (sp : Span) (er : Int) (w : World) (hA : asked k cs h = (sp, er)) (hsl : k.steps.length ≤ 9223372036854775807) (hR : RdSteps w a k.steps) (hRc : RdCks w ac cs) (hlc : cs.length ≤ 9223372036854775807) :
    Calls Try.prog 54 #[.agg #[.int .i64 k.new, .int .i64 k.wear.lo, .int .i64 k.wear.hi, .slice a k.steps.length c], .slice ac cs.length cc, .int .i64 h] w (fun e w' => e = .returned (.tuple #[.agg #[.int .i64 sp.lo, .int .i64 sp.hi], .int .i64 er]) ∧ Below w.heap.size w w') := by
  have := rasked_any k a c ac cc cs h w hsl hR hRc hlc; rw [hA] at this; exact this

set_option maxRecDepth 100000 in
set_option maxHeartbeats 32000000 in
theorem rreplace_any (ar : Option Addr) (cr : Nat) (rack : List Vl) (an : Option Addr) (cn : Nat) (l : List Int) (f u : Int) (w : World) (hR : RdRack w ar rack) (hRl : RdInts w an l) (hlr : rack.length ≤ 9223372036854775807) (hll : l.length ≤ 9223372036854775807) :
    Calls Try.prog 36 #[.slice ar rack.length cr, .slice an l.length cn, .int .i64 f, .int .i64 u] w (RepRes rack l f u w) := by
 have HR := hid hR; have HRl := hid hRl; clear hR hRl; obtain ⟨i1, hi1, hz1, hy1, hx1⟩ := info_parts info_int; obtain ⟨i2, hi2, hz2, hy2, hx2⟩ := info_parts info_sl
 refine enter_F Try.func36 rfl Try.ntmps36 (by simp) ?_
 intro s0 hs; have sl0 : s0 0 = .slice ar rack.length cr := hs 0 (by simp); have sl1 : s0 1 = .slice an l.length cn := hs 1 (by simp); have sl2 : s0 2 = .int .i64 f := hs 2 (by simp); have sl3 : s0 3 = .int .i64 u := hs 3 (by simp); clear hs; have HB := hid (OldB.refl [] w)
 repeat ((fail_if_success refine stp ?_); with_reducible go_step)
 refine region_F ?_; refine pl ?_; refine pl ?_; refine listF_abs (fun s1 z' => ?_); replace sl0 := gs 0 z' sl0; replace sl1 := gs 1 z' sl1; replace sl2 := gs 2 z' sl2; replace sl3 := gs 3 z' sl3; clear z'; refine listF_nil ?_
 repeat ((fail_if_success refine stp ?_); with_reducible go_step)
 have hj2_0 := hid sl0; have hj2_1 := hid sl1; have hj2_2 := hid sl2; have hj2_3 := hid sl3; refine cut_any (fun sJ wJ => sJ 30 = .bool (decide (12 < rack.length) || decide (20 < l.length)) ∧ sJ 0 = s1 0 ∧ sJ 1 = s1 1 ∧ sJ 2 = s1 2 ∧ sJ 3 = s1 3 ∧ OldB [] w wJ) ?_ ?_
 ·skip
  have HL3 := hid (OldB.refl [] w); refine region_F ?_
  iterate 4 refine pl ?_
  refine listF_abs (fun s4 z' => ?_); replace sl0 := gs 0 z' sl0; replace sl1 := gs 1 z' sl1; replace sl2 := gs 2 z' sl2; replace sl3 := gs 3 z' sl3; have sl26 := gu 26 z'; clear z'
  refine boolG sl26 (fun sl26' h26 => ?_) (fun sl26' h26 => ?_) <;> (clear sl26; have sl26 := sl26'; clear sl26')
  ·skip
   refine pn true ?_; refine pn true ?_; refine pn true ?_; refine pl ?_; refine listF_abs (fun s5 z' => ?_); replace sl0 := gs 0 z' sl0; replace sl1 := gs 1 z' sl1; replace sl2 := gs 2 z' sl2; replace sl3 := gs 3 z' sl3; have sl30 := gu 30 z'; clear z' sl26; refine listF_nil ?_
   repeat ((fail_if_success refine stp ?_); with_reducible go_step)
   exact ⟨rfl, _, rfl, (by have h := h26; simp at h; rw [sl30]; simp; omega), (sl0.trans hj2_0.out.symm), (sl1.trans hj2_1.out.symm), (sl2.trans hj2_2.out.symm), (sl3.trans hj2_3.out.symm), HL3.out⟩
  ·skip
   iterate 3 refine py ?_
   refine pl ?_; refine listF_abs (fun s6 z' => ?_); replace sl0 := gs 0 z' sl0; replace sl1 := gs 1 z' sl1; replace sl2 := gs 2 z' sl2; replace sl3 := gs 3 z' sl3; have sl30 := gu 30 z'; clear z' sl26; refine listF_nil ?_
   repeat ((fail_if_success refine stp ?_); with_reducible go_step)
   exact ⟨rfl, _, rfl, (by have h := h26; simp at h; rw [sl30]; simp [show ¬ 12 < rack.length by omega]; try omega), (sl0.trans hj2_0.out.symm), (sl1.trans hj2_1.out.symm), (sl2.trans hj2_2.out.symm), (sl3.trans hj2_3.out.symm), HL3.out⟩
 ·skip
  rintro s7 w8 ⟨sl30, e0, e1, e2, e3, hb9⟩; replace sl0 := e0.trans sl0; clear e0 hj2_0; replace sl1 := e1.trans sl1; clear e1 hj2_1; replace sl2 := e2.trans sl2; clear e2 hj2_2; replace sl3 := e3.trans sl3; clear e3 hj2_3; replace HB := hid (HB.out.more hb9 (by simp; try omega)); clear hb9
  repeat ((fail_if_success refine stp ?_); with_reducible go_step)
  refine cond_E sl30 (by decide) ?_ ?_ <;> (clear sl30; intro h30 sl30)
  ·skip
   have H3 := hid (show 12 < rack.length ∨ 20 < l.length by simpa using h30); have He := hid (show repErr rack l f u = 3 by unfold repErr; rw [if_pos H3.out]); have Hr := hid (show repRes rack l f u = ([], 3) by unfold repRes; rw [if_pos (by rw [He.out]; decide), He.out])
   repeat ((fail_if_success refine stp ?_); with_reducible go_step)
   refine region_F ?_; refine pl ?_; refine pl ?_; refine listF_abs (fun s10 z' => ?_); have sl8 := gu 8 z'; have sl9 := gu 9 z'; clear z' sl0 sl1 sl2 sl3 sl30; refine listF_nil ?_
   repeat ((fail_if_success refine stp ?_); with_reducible go_step)
   refine ret_F _ (res_tt Try.results36 ((getD_F (by decide)).trans sl8) ((getD_F (by decide)).trans sl9)) ?_; exact rep_no Hr.out HB.out.toBelow
  ·skip
   have h3 : ¬ (12 < rack.length ∨ 20 < l.length) := by simp at h30; omega
   have hl12 : rack.length ≤ 12 := by omega
   have hl20 : l.length ≤ 20 := by omega
   have H3 := hid h3; clear h3
   repeat ((fail_if_success refine stp ?_); with_reducible go_step)
   refine region_F ?_; refine pl ?_; refine listF_abs (fun s11 z' => ?_); replace sl0 := gs 0 z' sl0; replace sl1 := gs 1 z' sl1; replace sl2 := gs 2 z' sl2; replace sl3 := gs 3 z' sl3; have sl10 := gu 10 z'; clear z' sl30; refine listF_nil ?_
   repeat ((fail_if_success refine stp ?_); with_reducible go_step)
   have hc0_0 := hid sl0; have hc0_1 := hid sl1; have hc0_2 := hid sl2; have hc0_3 := hid sl3; refine loop_F (n := 157) (fun kJ sJ wJ => ∃ (i : Nat), kJ = l.length - i ∧ sJ 10 = .int .i64 (i : Int) ∧ sJ 0 = s11 0 ∧ sJ 1 = s11 1 ∧ sJ 2 = s11 2 ∧ sJ 3 = s11 3 ∧ OldB [] w8 wJ ∧ i ≤ l.length ∧ (Hid (∀ j (h : j < l.length), j < i → inb l[j] 0 100000 = true))) ⟨0, rfl, (by first | exact sl10 | (rw [sl10]; go_num) | (rw [sl10]; rfl)), rfl, rfl, rfl, rfl, OldB.refl _ _, Nat.zero_le _, hid (fun j hj h => by omega)⟩ ?_; clear sl10; rintro kJ s12 w13 ⟨i, rfl, sl10, e0, e1, e2, e3, hb14, hil, Hall⟩; replace sl0 := e0.trans sl0; clear e0; replace sl1 := e1.trans sl1; clear e1; replace sl2 := e2.trans sl2; clear e2; replace sl3 := e3.trans sl3; clear e3; have hoJ := hb14; replace HB := hid (HB.out.more hb14 (by simp; try omega)); clear hb14; have HoJ := hid hoJ; clear hoJ; have HL15 := HoJ; clear HoJ
   repeat ((fail_if_success refine stp ?_); with_reducible go_step)
   refine region_F ?_
   iterate 4 refine pl ?_
   refine listF_abs (fun s16 z' => ?_); replace sl0 := gs 0 z' sl0; replace sl1 := gs 1 z' sl1; replace sl2 := gs 2 z' sl2; replace sl3 := gs 3 z' sl3; replace sl10 := gs 10 z' sl10; have sl34 := gu 34 z'; clear z'; refine listF_nil ?_
   repeat ((fail_if_success refine stp ?_); with_reducible go_step)
   refine cond_E sl34 (by decide) ?_ ?_ <;> (clear sl34; intro h34 sl34)
   ·skip
    have hi : i < l.length := by simpa using h34
    have hii : (i : Int) < l.length := by omega
    obtain ⟨bl, ol, hae, hbl, cl⟩ := RdInts.ne (Rd.oldB HRl.out HB.out (by simp)) hi; subst hae; obtain ⟨q, hq⟩ : ∃ z, l[i] = z := ⟨_, rfl⟩; rw [hq] at cl; have Hq := hid hq; clear hq
    repeat ((fail_if_success refine stp ?_); with_reducible go_step)
    refine region_F ?_
    iterate 4 refine pl ?_
    refine listF_step rfl (fun K' hK => ?_); unfold opF; go_simp; refine (rin_any q 0 100000 _).mono ?_; rintro e w' ⟨rfl, rfl⟩; refine ⟨_, rfl, hK _ _ ?_⟩; clear hK K'; refine pl ?_; refine listF_abs (fun s18 z' => ?_); replace sl0 := gs 0 z' sl0; replace sl1 := gs 1 z' sl1; replace sl2 := gs 2 z' sl2; replace sl3 := gs 3 z' sl3; replace sl10 := gs 10 z' sl10; have sl42 := gu 42 z'; clear z' sl34; refine listF_nil ?_
    repeat ((fail_if_success refine stp ?_); with_reducible go_step)
    refine cond_E sl42 (by decide) ?_ ?_ <;> (clear sl42; intro h42 sl42)
    ·skip
     have hqb : inb q 0 100000 = false := by simpa using h42
     have H7 := hid (show l.any (fun n => !inb n 0 100000) = true ∨ inb f 0 100000 = false ∨ inb u 0 100000 = false from .inl (List.any_eq_true.2 ⟨q, by rw [← Hq.out]; exact List.getElem_mem hi, by simp [hqb]⟩)); have He := hid (show repErr rack l f u = 7 by unfold repErr; rw [if_neg H3.out, if_pos H7.out]); have Hr := hid (show repRes rack l f u = ([], 7) by unfold repRes; rw [if_pos (by rw [He.out]; decide), He.out])
     repeat ((fail_if_success refine stp ?_); with_reducible go_step)
     refine region_F ?_; refine pl ?_; refine pl ?_; refine listF_abs (fun s19 z' => ?_); have sl8 := gu 8 z'; have sl9 := gu 9 z'; clear z' sl0 sl1 sl2 sl3 sl10 sl42; refine listF_nil ?_
     repeat ((fail_if_success refine stp ?_); with_reducible go_step)
     refine ret_F _ (res_tt Try.results36 ((getD_F (by decide)).trans sl8) ((getD_F (by decide)).trans sl9)) ?_; exact rep_no Hr.out HB.out.toBelow
    ·skip
     have Hqb := hid (show inb q 0 100000 = true by simpa using h42)
     repeat ((fail_if_success refine stp ?_); with_reducible go_step)
     refine region_F ?_
     iterate 3 refine pl ?_
     refine listF_abs (fun s20 z' => ?_); replace sl0 := gs 0 z' sl0; replace sl1 := gs 1 z' sl1; replace sl2 := gs 2 z' sl2; replace sl3 := gs 3 z' sl3; replace sl10 := gu 10 z'; clear z' sl42; refine listF_nil ?_
     repeat ((fail_if_success refine stp ?_); with_reducible go_step)
     refine ⟨_, _, rfl, ?_, i + 1, rfl, (by first | (with_reducible exact sl10) | (rw [sl10]; (with_reducible go_num); done) | (rw [sl10, IntWalk.i64_in] <;> first | ((with_reducible go_num); done) | omega) | (rw [sl10]; go_num; done) | (rw [sl10]; simp; done) | (rw [sl10]; simp; omega)), (sl0.trans hc0_0.out.symm), (sl1.trans hc0_1.out.symm), (sl2.trans hc0_2.out.symm), (sl3.trans hc0_3.out.symm), HL15.out, by omega, hid (fun j hj hji => by rcases Nat.lt_or_ge j i with h | h <;> first | exact Hall.out j hj h | (have e : j = i := (by omega); subst e; rw [Hq.out]; exact Hqb.out))⟩
     omega
   ·skip
    have hi : i = l.length := by have h := h34; simp at h; omega
    have Hnb := hid (show ∀ x ∈ l, 0 ≤ x ∧ x ≤ 100000 from fun x hx => by obtain ⟨j, hj, rfl⟩ := List.mem_iff_getElem.1 hx; exact (inb_iff _ _ _).1 (Hall.out j hj (by omega))); clear hi
    repeat ((fail_if_success refine stp ?_); with_reducible go_step)
    clear HL15; clear hc0_0 hc0_1 hc0_2 hc0_3; have hj21_0 := hid sl0; have hj21_1 := hid sl1; have hj21_2 := hid sl2; have hj21_3 := hid sl3; refine cut_any (fun sJ wJ => sJ 50 = .bool (!(inb f 0 100000) || !(inb u 0 100000)) ∧ sJ 0 = s16 0 ∧ sJ 1 = s16 1 ∧ sJ 2 = s16 2 ∧ sJ 3 = s16 3 ∧ OldB [] w13 wJ) ?_ ?_
    ·skip
     have HL22 := hid (OldB.refl [] w13); refine region_F ?_; refine pl ?_; refine listF_step rfl (fun K' hK => ?_); unfold opF; go_simp; refine (rin_any f 0 100000 _).mono ?_; rintro e w' ⟨rfl, rfl⟩; refine ⟨_, rfl, hK _ _ ?_⟩; clear hK K'; refine pl ?_; refine pl ?_; refine listF_abs (fun s24 z' => ?_); replace sl0 := gs 0 z' sl0; replace sl1 := gs 1 z' sl1; replace sl2 := gs 2 z' sl2; replace sl3 := gs 3 z' sl3; have sl46 := gu 46 z'; clear z' sl10 sl34
     refine boolG sl46 (fun sl46' h46 => ?_) (fun sl46' h46 => ?_) <;> (clear sl46; have sl46 := sl46'; clear sl46')
     ·skip
      refine pn true ?_; refine pn true ?_; refine pn true ?_; refine pl ?_; refine listF_abs (fun s25 z' => ?_); replace sl0 := gs 0 z' sl0; replace sl1 := gs 1 z' sl1; replace sl2 := gs 2 z' sl2; replace sl3 := gs 3 z' sl3; have sl50 := gu 50 z'; clear z' sl46; refine listF_nil ?_
      repeat ((fail_if_success refine stp ?_); with_reducible go_step)
      exact ⟨rfl, _, rfl, (by have h := h46; simp at h; rw [sl50]; simp [h]), (sl0.trans hj21_0.out.symm), (sl1.trans hj21_1.out.symm), (sl2.trans hj21_2.out.symm), (sl3.trans hj21_3.out.symm), HL22.out⟩
     ·skip
      refine py ?_; refine listF_yes rfl rfl (by decide) ?_ (fun K' hK => ?_); (focus (go_simp; done)); unfold opF; go_simp; refine (rin_any u 0 100000 _).mono ?_; rintro e w' ⟨rfl, rfl⟩; refine ⟨_, rfl, hK _ _ ?_⟩; clear hK K'; refine py ?_; refine pl ?_; refine listF_abs (fun s27 z' => ?_); replace sl0 := gs 0 z' sl0; replace sl1 := gs 1 z' sl1; replace sl2 := gs 2 z' sl2; replace sl3 := gs 3 z' sl3; have sl50 := gu 50 z'; clear z' sl46; refine listF_nil ?_
      repeat ((fail_if_success refine stp ?_); with_reducible go_step)
      exact ⟨rfl, _, rfl, (by have h := h46; simp at h; rw [sl50]; simp [h]), (sl0.trans hj21_0.out.symm), (sl1.trans hj21_1.out.symm), (sl2.trans hj21_2.out.symm), (sl3.trans hj21_3.out.symm), HL22.out⟩
    ·skip
     clear sl10 sl34; rintro s28 w29 ⟨sl50, e0, e1, e2, e3, hb30⟩; replace sl0 := e0.trans sl0; clear e0 hj21_0; replace sl1 := e1.trans sl1; clear e1 hj21_1; replace sl2 := e2.trans sl2; clear e2 hj21_2; replace sl3 := e3.trans sl3; clear e3 hj21_3; replace HB := hid (HB.out.more hb30 (by simp; try omega)); clear hb30
     repeat ((fail_if_success refine stp ?_); with_reducible go_step)
     refine cond_E sl50 (by decide) ?_ ?_ <;> (clear sl50; intro h50 sl50)
     ·skip
      have H7 := hid (show l.any (fun n => !inb n 0 100000) = true ∨ inb f 0 100000 = false ∨ inb u 0 100000 = false by have h := h50; simp at h; rcases h with h | h; exact .inr (.inl h); exact .inr (.inr h)); have He := hid (show repErr rack l f u = 7 by unfold repErr; rw [if_neg H3.out, if_pos H7.out]); have Hr := hid (show repRes rack l f u = ([], 7) by unfold repRes; rw [if_pos (by rw [He.out]; decide), He.out])
      repeat ((fail_if_success refine stp ?_); with_reducible go_step)
      refine region_F ?_; refine pl ?_; refine pl ?_; refine listF_abs (fun s31 z' => ?_); have sl8 := gu 8 z'; have sl9 := gu 9 z'; clear z' sl0 sl1 sl2 sl3 sl50; refine listF_nil ?_
      repeat ((fail_if_success refine stp ?_); with_reducible go_step)
      refine ret_F _ (res_tt Try.results36 ((getD_F (by decide)).trans sl8) ((getD_F (by decide)).trans sl9)) ?_; exact rep_no Hr.out HB.out.toBelow
     ·skip
      have h50' : inb f 0 100000 = true ∧ inb u 0 100000 = true := by simpa using h50
      obtain ⟨hf1, hf2⟩ := (inb_iff _ _ _).1 h50'.1; obtain ⟨hu1, hu2⟩ := (inb_iff _ _ _).1 h50'.2; have H7 := hid (show ¬ (l.any (fun n => !inb n 0 100000) = true ∨ inb f 0 100000 = false ∨ inb u 0 100000 = false) by rintro (h | h | h); (obtain ⟨z, hz, h2⟩ := List.any_eq_true.1 h; rw [(inb_iff _ _ _).2 (Hnb.out z hz)] at h2; cases h2); exact absurd h (by rw [h50'.1]; decide); exact absurd h (by rw [h50'.2]; decide)); clear h50'
      repeat ((fail_if_success refine stp ?_); with_reducible go_step)
      refine region_F ?_; refine pl ?_; refine listF_abs (fun s32 z' => ?_); replace sl0 := gs 0 z' sl0; replace sl1 := gs 1 z' sl1; replace sl2 := gs 2 z' sl2; replace sl3 := gs 3 z' sl3; have sl11 := gu 11 z'; clear z' sl50; refine listF_nil ?_
      repeat ((fail_if_success refine stp ?_); with_reducible go_step)
      have hc1_0 := hid sl0; have hc1_1 := hid sl1; have hc1_2 := hid sl2; have hc1_3 := hid sl3; refine loop_F (n := 157) (fun kJ sJ wJ => ∃ (i : Nat), kJ = l.length - i + 1 ∧ sJ 11 = .int .i64 ((i : Int) + 1) ∧ sJ 0 = s32 0 ∧ sJ 1 = s32 1 ∧ sJ 2 = s32 2 ∧ sJ 3 = s32 3 ∧ OldB [] w29 wJ ∧ i ≤ l.length ∧ (Hid (∀ j, (h : j + 1 < l.length) → j < i → l[j] < l[j + 1]))) ⟨0, rfl, (by first | exact sl11 | (rw [sl11]; go_num) | (rw [sl11]; rfl)), rfl, rfl, rfl, rfl, OldB.refl _ _, Nat.zero_le _, hid (fun j hj h => by omega)⟩ ?_; clear sl11; rintro kJ s33 w34 ⟨i, rfl, sl11, e0, e1, e2, e3, hb35, hil, Hasc⟩; replace sl0 := e0.trans sl0; clear e0; replace sl1 := e1.trans sl1; clear e1; replace sl2 := e2.trans sl2; clear e2; replace sl3 := e3.trans sl3; clear e3; have hoJ := hb35; replace HB := hid (HB.out.more hb35 (by simp; try omega)); clear hb35; have HoJ := hid hoJ; clear hoJ; have HL36 := HoJ; clear HoJ
      repeat ((fail_if_success refine stp ?_); with_reducible go_step)
      refine region_F ?_
      iterate 4 refine pl ?_
      refine listF_abs (fun s37 z' => ?_); replace sl0 := gs 0 z' sl0; replace sl1 := gs 1 z' sl1; replace sl2 := gs 2 z' sl2; replace sl3 := gs 3 z' sl3; replace sl11 := gs 11 z' sl11; have sl54 := gu 54 z'; clear z'; refine listF_nil ?_
      repeat ((fail_if_success refine stp ?_); with_reducible go_step)
      refine cond_E sl54 (by decide) ?_ ?_ <;> (clear sl54; intro h54 sl54)
      ·skip
       have hi : i + 1 < l.length := by have h := h54; simp at h; omega
       have hi0 : i < l.length := by omega
       have hii : (i : Int) + 1 < l.length := by omega
       have hii0 : (i : Int) < l.length := by omega
       obtain ⟨bl, ol, hae, hbl, cl⟩ := RdInts.ne (Rd.oldB HRl.out HB.out (by simp)) hi; subst hae; have cl2 := rd_at1 (Rd.oldB HRl.out HB.out (by simp)) hi0 rfl; obtain ⟨q, hq⟩ : ∃ z, l[i + 1] = z := ⟨_, rfl⟩; obtain ⟨q2, hq2⟩ : ∃ z, l[i] = z := ⟨_, rfl⟩; rw [hq] at cl; rw [hq2] at cl2; have Hq := hid hq; have Hq2 := hid hq2; clear hq hq2; have wi1 : IntKind.i64.wrap (i : Int) = i := IntWalk.i64_in _ (by omega)
       have hi9 : (0 : Int) ≤ (i : Int) + 1 := by omega
       repeat ((fail_if_success refine stp ?_); with_reducible go_step)
       refine regionR_F [] [] [] [.q [], .q [], .q [], .q [], .q [], .q [], .q [], .q [], .q []] [?v38_0, ?v38_1, ?v38_2, ?v38_3, ?v38_4, ?v38_5, ?v38_6, ?v38_7, ?v38_8] [fun _ => [], fun _ => [], fun _ => [], fun _ => [], fun _ => [], fun _ => [], fun _ => [], fun _ => [], fun _ => []] (by kernel_rfl) (by kernel_rfl) (by kernel_rfl) (by kernel_rfl) (by kernel_rfl) (by first | exact List.nodup_nil | exact List.nodup_singleton _ | (simp; done) | (simp; omega)) bc_nil ?walk38 ?dep38
       case walk38 =>
        iterate 9 refine rq ?_
        refine walkR_nil (fun X hX w38 hwz hcz => ?_); clear hX hcz
        (try clear X)
        skip; have hb39 := hwz.unDrew; clear hwz; replace HL36 := hid (HL36.out.more hb39 (by simp; try omega)); replace HB := hid (HB.out.more hb39 (by simp; try omega)); clear hb39; refine pl ?_; refine listF_abs (fun s40 z' => ?_); replace sl0 := gs 0 z' sl0; replace sl1 := gs 1 z' sl1; replace sl2 := gs 2 z' sl2; replace sl3 := gs 3 z' sl3; replace sl11 := gs 11 z' sl11; have sl66 := gu 66 z'; clear z' sl54; refine listF_nil ?_
        repeat ((fail_if_success refine stp ?_); with_reducible go_step)
        refine cond_E sl66 (by decide) ?_ ?_ <;> (clear sl66; intro h66 sl66)
        ·skip
         have H2 := hid (show ndec l = false ∨ dups l = true ∨ u < f by rcases not_incr hi (by rw [Hq.out, Hq2.out]; simpa using h66) with h | h; exact .inl h; exact .inr (.inl h)); have He := hid (show repErr rack l f u = 2 by unfold repErr; rw [if_neg H3.out, if_neg H7.out, if_pos H2.out]); have Hr := hid (show repRes rack l f u = ([], 2) by unfold repRes; rw [if_pos (by rw [He.out]; decide), He.out])
         repeat ((fail_if_success refine stp ?_); with_reducible go_step)
         refine region_F ?_; refine pl ?_; refine pl ?_; refine listF_abs (fun s41 z' => ?_); have sl8 := gu 8 z'; have sl9 := gu 9 z'; clear z' sl0 sl1 sl2 sl3 sl11 sl66; refine listF_nil ?_
         repeat ((fail_if_success refine stp ?_); with_reducible go_step)
         refine ret_F _ (res_tt Try.results36 ((getD_F (by decide)).trans sl8) ((getD_F (by decide)).trans sl9)) ?_; exact rep_no Hr.out HB.out.toBelow
        ·skip
         have h66' : q2 < q := by simpa using h66
         repeat ((fail_if_success refine stp ?_); with_reducible go_step)
         refine region_F ?_
         iterate 3 refine pl ?_
         refine listF_abs (fun s42 z' => ?_); replace sl0 := gs 0 z' sl0; replace sl1 := gs 1 z' sl1; replace sl2 := gs 2 z' sl2; replace sl3 := gs 3 z' sl3; replace sl11 := gu 11 z'; clear z' sl66; refine listF_nil ?_
         repeat ((fail_if_success refine stp ?_); with_reducible go_step)
         refine ⟨_, _, rfl, ?_, i + 1, rfl, (by first | (with_reducible exact sl11) | (rw [sl11]; (with_reducible go_num); done) | (rw [sl11, IntWalk.i64_in] <;> first | ((with_reducible go_num); done) | omega) | (rw [sl11]; go_num; done) | (rw [sl11]; simp; done) | (rw [sl11]; simp; omega)), (sl0.trans hc1_0.out.symm), (sl1.trans hc1_1.out.symm), (sl2.trans hc1_2.out.symm), (sl3.trans hc1_3.out.symm), HL36.out, by omega, hid (fun j hj hji => by rcases Nat.lt_or_ge j i with h | h <;> first | exact Hasc.out j hj h | (have e : j = i := (by omega); subst e; rw [Hq.out, Hq2.out]; exact h66'))⟩
         omega
       case dep38 =>
         iterate 9 refine dR ?_
         exact depR_nil
      ·skip
       have hi : l.length ≤ i + 1 := by have h := h54; simp at h; omega
       have hnd := incr_nd (l := l) (fun j hj => Hasc.out j hj (by omega)); have Hnd := hid hnd; clear hnd hi
       repeat ((fail_if_success refine stp ?_); with_reducible go_step)
       clear HL36; clear hc1_0 hc1_1 hc1_2 hc1_3; refine region_F ?_
       iterate 3 refine pl ?_
       refine listF_abs (fun s43 z' => ?_); replace sl0 := gs 0 z' sl0; replace sl1 := gs 1 z' sl1; replace sl2 := gs 2 z' sl2; replace sl3 := gs 3 z' sl3; have sl69 := gu 69 z'; clear z' sl11 sl54; refine listF_nil ?_
       repeat ((fail_if_success refine stp ?_); with_reducible go_step)
       refine cond_E sl69 (by decide) ?_ ?_ <;> (clear sl69; intro h69 sl69)
       ·skip
        have H2 := hid (show ndec l = false ∨ dups l = true ∨ u < f from .inr (.inr (by simpa using h69))); have He := hid (show repErr rack l f u = 2 by unfold repErr; rw [if_neg H3.out, if_neg H7.out, if_pos H2.out]); have Hr := hid (show repRes rack l f u = ([], 2) by unfold repRes; rw [if_pos (by rw [He.out]; decide), He.out])
        repeat ((fail_if_success refine stp ?_); with_reducible go_step)
        refine region_F ?_; refine pl ?_; refine pl ?_; refine listF_abs (fun s44 z' => ?_); have sl8 := gu 8 z'; have sl9 := gu 9 z'; clear z' sl0 sl1 sl2 sl3 sl69; refine listF_nil ?_
        repeat ((fail_if_success refine stp ?_); with_reducible go_step)
        refine ret_F _ (res_tt Try.results36 ((getD_F (by decide)).trans sl8) ((getD_F (by decide)).trans sl9)) ?_; exact rep_no Hr.out HB.out.toBelow
       ·skip
        have huf : ¬ u < f := by simpa using h69
        have H2 := hid (show ¬ (ndec l = false ∨ dups l = true ∨ u < f) by rintro (h | h | h); exact absurd h (by rw [Hnd.out.1]; decide); exact absurd h (by rw [Hnd.out.2]; decide); exact huf h)
        repeat ((fail_if_success refine stp ?_); with_reducible go_step)
        refine region_F ?_; refine pl ?_; refine pl ?_; obtain ⟨w45, hmk, hOm, hGm⟩ := run_make_full (P := Try.prog) w34 w34.heap.size 55 47 i2 (.slice none 0 0) 1 Try.underlying55 hi2 hz2 hy2 .i64 .i64 l.length (by rw [hx2]; omega) (by unfold maxLen; omega) (Nat.le_refl _); refine pl ?_; clear hmk; have hb46 : Below w34.heap.size w34 w45 := ⟨hGm.os, hGm.tape, hGm.output, hGm.size, fun k hk => hGm.block k hk (by simp)⟩; obtain ⟨B72, hB⟩ : ∃ b, b = w34.heap.size := ⟨_, rfl⟩; rw [← hB] at hOm
        (try rw [← hB])
        have g72 := HB.out.gB hB; clear hB; have k72' : Cells w45 B72 ((List.replicate l.length Sl.zero).flatMap Sl.cs) := (Own.of (f := Sl.cs) (m := 1) (n := l.length) (by simp) (by rw [← made_sls]) hOm).toCells; clear hOm hGm; replace HB := hid (HB.out.below hb46); clear hb46; have kB72 := k72'; clear k72'; have qB72 := kB72.1; refine pl ?_; refine listF_abs (fun s47 z' => ?_); replace sl0 := gs 0 z' sl0; replace sl1 := gs 1 z' sl1; replace sl2 := gs 2 z' sl2; replace sl3 := gs 3 z' sl3; have sl12 := gu 12 z'; clear z' sl69; refine listF_nil ?_
        repeat ((fail_if_success refine stp ?_); with_reducible go_step)
        refine region_F ?_; refine pl ?_; refine listF_abs (fun s48 z' => ?_); replace sl0 := gs 0 z' sl0; replace sl1 := gs 1 z' sl1; replace sl2 := gs 2 z' sl2; replace sl3 := gs 3 z' sl3; replace sl12 := gs 12 z' sl12; have sl13 := gu 13 z'; clear z'; refine listF_nil ?_
        repeat ((fail_if_success refine stp ?_); with_reducible go_step)
        clear qB72; have hc2_0 := hid sl0; have hc2_1 := hid sl1; have hc2_2 := hid sl2; have hc2_3 := hid sl3; have hc2_12 := hid sl12; refine loop_F (n := 157) (fun kJ sJ wJ => ∃ (i : Nat), kJ = rack.length - i ∧ sJ 13 = .int .i64 (i : Int) ∧ sJ 0 = s48 0 ∧ sJ 1 = s48 1 ∧ sJ 2 = s48 2 ∧ sJ 3 = s48 3 ∧ sJ 12 = s48 12 ∧ OldB [] w wJ ∧ i ≤ rack.length ∧ Cells wJ B72 ((List.replicate l.length Sl.zero).flatMap Sl.cs) ∧ (Hid (∀ j (h : j < rack.length), j < i → askErr f rack[j] = 0))) ⟨0, rfl, (by first | exact sl13 | (rw [sl13]; go_num) | (rw [sl13]; rfl)), rfl, rfl, rfl, rfl, rfl, HB.out, Nat.zero_le _, kB72, hid (fun j hj h => by omega)⟩ ?_; clear sl13 kB72 HB; rintro kJ s49 w50 ⟨i, rfl, sl13, e0, e1, e2, e3, e12, HB', hil, k72x, hok⟩; replace sl0 := e0.trans sl0; clear e0; replace sl1 := e1.trans sl1; clear e1; replace sl2 := e2.trans sl2; clear e2; replace sl3 := e3.trans sl3; clear e3; replace sl12 := e12.trans sl12; clear e12
        have HB := hid HB'; clear HB'; have kB72 := k72x; clear k72x; have qB72 := kB72.1
        repeat ((fail_if_success refine stp ?_); with_reducible go_step)
        refine region_F ?_
        iterate 4 refine pl ?_
        refine listF_abs (fun s51 z' => ?_); replace sl0 := gs 0 z' sl0; replace sl1 := gs 1 z' sl1; replace sl2 := gs 2 z' sl2; replace sl3 := gs 3 z' sl3; replace sl12 := gs 12 z' sl12; replace sl13 := gs 13 z' sl13; have sl76 := gu 76 z'; clear z'; refine listF_nil ?_
        repeat ((fail_if_success refine stp ?_); with_reducible go_step)
        refine cond_E sl76 (by decide) ?_ ?_ <;> (clear sl76; intro h76 sl76)
        ·skip
         have hi : i < rack.length := by simpa using h76
         have hii : (i : Int) < rack.length := by omega
         obtain ⟨x, hx⟩ : ∃ y, rack[i] = y := ⟨_, rfl⟩; have Hmem := hid (show x ∈ rack by rw [← hx]; exact List.getElem_mem hi); have Hin := hid (show (-9223372036854775808 ≤ x.k.new ∧ x.k.new ≤ 9223372036854775807) ∧ x.k.steps.length ≤ 9223372036854775807 ∧ x.cs.length ≤ 9223372036854775807 from HR.out.inn x Hmem.out); obtain ⟨b, off, hae, hbs, c0, c1, c2, c3, c4⟩ := RdVls.ne (Rd.oldB HR.out.rd HB.out (by simp)) hi; subst hae; rw [hx] at c0 c1 c2 c3 c4; obtain ⟨⟨sp, er⟩, hA⟩ : ∃ z : Span × Int, asked x.k x.cs f = z := ⟨_, rfl⟩; have HA := hid hA; have Hx := hid hx; clear hA hx
         repeat ((fail_if_success refine stp ?_); with_reducible go_step)
         refine regionR_F [] [] [15] [.q [], .q [], .q [], .q [], .q [], .q [], .q [], .q [], .q [], .q [], .q [], .q [], .q [], .q [], .q [], .a, .st 15] [?v39_0, ?v39_1, ?v39_2, ?v39_3, ?v39_4, ?v39_5, ?v39_6, ?v39_7, ?v39_8, ?v39_9, ?v39_10, ?v39_11, ?v39_12, ?v39_13, ?v39_14, ?v39_15, fun _ => undef] [fun _ => [], fun _ => [], fun _ => [], fun _ => [], fun _ => [], fun _ => [], fun _ => [], fun _ => [], fun _ => [], fun _ => [], fun _ => [], fun _ => [], fun _ => [], fun _ => [], fun _ => [], ?c39_15, ?c39_16] (by kernel_rfl) (by kernel_rfl) (by kernel_rfl) (by kernel_rfl) (by kernel_rfl) (by first | exact List.nodup_nil | exact List.nodup_singleton _ | (simp; done) | (simp; omega)) bc_nil ?walk39 ?dep39
         case walk39 =>
          iterate 11 refine rq ?_
          refine walkR_q (by rfl) (fun X hX wq hwq hrq => ?_) ?_
          · obtain ⟨hcq, hfq⟩ := hwq.b0
            clear hrq; go_simp
            (with_reducible exact (rasked_v x.k x.a x.c x.ca x.cc x.cs f sp er _ HA.out Hin.out.2.1 (Rd.oldB (HR.out.st _ Hmem.out) (HB.out.more hwq.unDrew (by simp; try omega)) (by simp)) (Rd.oldB (HR.out.ck _ Hmem.out) (HB.out.more hwq.unDrew (by simp; try omega)) (by simp)) Hin.out.2.2))
          iterate 3 refine rq ?_
          refine walkR_a (by rfl) (fun X hX wq hwq hsq => ?_) ?_
          · go_simp
            refine newB_mk ?_ ?_
            · rfl
            · rfl
          refine walkR_st (by rfl) (fun X hX wq hwq hkq => ?_) ?_
          · simp only [updC_some, updC_none, Nat.reduceEqDiff, ↓reduceIte] at hkq
            have hks := hkq.1; have hkz := hkq.2.2
            (try have hk0 := hkq.cell 0 rfl)
            (try have hk1 := hkq.cell 1 rfl)
            (try have hk2 := hkq.cell 2 rfl)
            (try have hk3 := hkq.cell 3 rfl)
            (try have hk4 := hkq.cell 4 rfl)
            (try have hk5 := hkq.cell 5 rfl)
            (try have hk6 := hkq.cell 6 rfl)
            (try have hk7 := hkq.cell 7 rfl)
            go_simp
            (first | ((with_reducible refine writeB_mk (Cells.set (Cells.set hkq)) ?_ ?_); (focus (repeat (first | (with_reducible exact Only.refl _ _) | (with_reducible refine Only.set ?_)))); rfl))
          refine walkR_nil (fun X hX w52 hwz hcz => ?_); have ka15 := hcz 15 (by simp)
          simp only [updC_some, updC_none, Nat.reduceEqDiff, ↓reduceIte] at ka15
          have la15 := hX.lo 15 rfl; clear hX hcz
          generalize X 15 = J15 at *
          (try clear X)
          skip; have hb53 := hwz.unDrew; clear hwz; have gJ := HB.out.size; replace la15 : w50.heap.size ≤ J15 := la15
          have oB72_J15 : B72 < J15 := by have := qB72; omega
          clear qB72; replace kB72 := kB72.oldB hb53 (by first | (simp; done) | (simp; omega)); replace HB := hid (HB.out.more hb53 (by simp; try omega)); clear hb53; have qB72 := kB72.1
          have gb14 : w.heap.size ≤ J15 := by omega
          have kb14 := ka15; clear ka15; have qb14 := kb14.1; refine pl ?_; refine listF_abs (fun s54 z' => ?_); replace sl0 := gs 0 z' sl0; replace sl1 := gs 1 z' sl1; replace sl2 := gs 2 z' sl2; replace sl3 := gs 3 z' sl3; replace sl12 := gs 12 z' sl12; replace sl13 := gs 13 z' sl13; have sl15 := gu 15 z'; clear z' sl76; refine listF_nil ?_
          repeat ((fail_if_success refine stp ?_); with_reducible go_step)
          refine region_F ?_; refine pl ?_; refine pl ?_; refine listF_abs (fun s55 z' => ?_); replace sl0 := gs 0 z' sl0; replace sl1 := gs 1 z' sl1; replace sl2 := gs 2 z' sl2; replace sl3 := gs 3 z' sl3; replace sl12 := gs 12 z' sl12; replace sl13 := gs 13 z' sl13; replace sl15 := gs 15 z' sl15; have sl95 := gu 95 z'; clear z'; refine listF_nil ?_
          repeat ((fail_if_success refine stp ?_); with_reducible go_step)
          refine cond_E sl95 (by decide) ?_ ?_ <;> (clear sl95; intro h95 sl95)
          ·skip
           have her : er ≠ 0 := by simpa using h95
           have Ha := hid (show askErr f rack[i] = er by unfold askErr; rw [Hx.out, HA.out]); have He := hid (show repErr rack l f u = er by unfold repErr; rw [if_neg H3.out, if_neg H7.out, if_neg H2.out, rackErr_some hi hok.out (by rw [Ha.out]; exact her), Ha.out]); have Hr := hid (show repRes rack l f u = ([], er) by unfold repRes; rw [if_pos (by rw [He.out]; exact her), He.out])
           repeat ((fail_if_success refine stp ?_); with_reducible go_step)
           refine region_F ?_
           iterate 3 refine pl ?_
           refine listF_abs (fun s56 z' => ?_); have sl8 := gu 8 z'; have sl9 := gu 9 z'; clear z' sl0 sl1 sl2 sl3 sl12 sl13 sl15 sl95; refine listF_nil ?_
           repeat ((fail_if_success refine stp ?_); with_reducible go_step)
           refine ret_F _ (res_tt Try.results36 ((getD_F (by decide)).trans sl8) ((getD_F (by decide)).trans sl9)) ?_; exact rep_no Hr.out HB.out.toBelow
          ·skip
           have her : er = 0 := by simpa using h95
           have Ha := hid (show askErr f rack[i] = 0 by unfold askErr; rw [Hx.out, HA.out]; exact her)
           repeat ((fail_if_success refine stp ?_); with_reducible go_step)
           refine region_F ?_
           iterate 3 refine pl ?_
           refine listF_abs (fun s57 z' => ?_); replace sl0 := gs 0 z' sl0; replace sl1 := gs 1 z' sl1; replace sl2 := gs 2 z' sl2; replace sl3 := gs 3 z' sl3; replace sl12 := gs 12 z' sl12; replace sl13 := gu 13 z'; clear z' sl15 sl95; refine listF_nil ?_
           repeat ((fail_if_success refine stp ?_); with_reducible go_step)
           refine ⟨_, _, rfl, ?_, i + 1, rfl, (by first | (with_reducible exact sl13) | (rw [sl13]; (with_reducible go_num); done) | (rw [sl13, IntWalk.i64_in] <;> first | ((with_reducible go_num); done) | omega) | (rw [sl13]; go_num; done) | (rw [sl13]; simp; done) | (rw [sl13]; simp; omega)), (sl0.trans hc2_0.out.symm), (sl1.trans hc2_1.out.symm), (sl2.trans hc2_2.out.symm), (sl3.trans hc2_3.out.symm), (sl12.trans hc2_12.out.symm), HB.out, by omega, kB72, hid (fun j hj hji => by rcases Nat.lt_or_ge j i with h | h <;> first | exact hok.out j hj h | (have e : j = i := (by omega); subst e; exact Ha.out))⟩
           omega
         case dep39 =>
           iterate 15 refine dR ?_
           refine depR_cons (fun X X' h => ?_) ?_
           · (first | exact ⟨rfl, rfl⟩ | (have e15 := h 15 (by decide +kernel); constructor <;> (first | rfl | (simp only [e15]))))
           refine depR_cons (fun X X' h => ?_) ?_
           · (first | exact ⟨rfl, rfl⟩ | (have e15 := h 15 (by decide +kernel); constructor <;> (first | rfl | (simp only [e15]))))
           exact depR_nil
        ·skip
         have hge : i = rack.length := by have h := h76; simp at h; omega
         subst hge; have He := hid (show repErr rack l f u = 0 by unfold repErr; rw [if_neg H3.out, if_neg H7.out, if_neg H2.out]; exact rackErr_none (fun x hx => by obtain ⟨j, hj, rfl⟩ := List.mem_iff_getElem.1 hx; exact hok.out j hj hj)); have Hask := hid (show ∀ x ∈ rack, (asked x.k x.cs f).2 = 0 from fun x hx => by obtain ⟨j, hj, rfl⟩ := List.mem_iff_getElem.1 hx; exact hok.out j hj hj)
         repeat ((fail_if_success refine stp ?_); with_reducible go_step)
         clear hc2_0 hc2_1 hc2_2 hc2_3 hc2_12; refine region_F ?_; refine pl ?_; refine listF_abs (fun s58 z' => ?_); replace sl0 := gs 0 z' sl0; replace sl1 := gs 1 z' sl1; replace sl2 := gs 2 z' sl2; replace sl3 := gs 3 z' sl3; replace sl12 := gs 12 z' sl12; have sl16 := gu 16 z'; clear z' sl13 sl76; refine listF_nil ?_
         repeat ((fail_if_success refine stp ?_); with_reducible go_step)
         clear qB72; have hc3_0 := hid sl0; have hc3_1 := hid sl1; have hc3_2 := hid sl2; have hc3_3 := hid sl3; have hc3_12 := hid sl12; refine loop_F (n := 157) (fun kJ sJ wJ => ∃ (i : Nat) (xs : List Sl) (o : LLI), kJ = rack.length - i ∧ sJ 16 = .int .i64 (i : Int) ∧ sJ 0 = s58 0 ∧ sJ 1 = s58 1 ∧ sJ 2 = s58 2 ∧ sJ 3 = s58 3 ∧ sJ 12 = s58 12 ∧ OldB [] w wJ ∧ i ≤ rack.length ∧ Cells wJ B72 (xs.flatMap Sl.cs) ∧ PlanO (B72 + 1) [] wJ xs ∧ Hid (xs.length = l.length) ∧ Hid (xs.map Sl.l = o) ∧ Hid (∀ q (h : q < xs.length), xs[q].l.length ≤ 20 * i) ∧ Hid (repOut rack l f u = repGo l f u (rack.drop i) i o)) ⟨0, (List.replicate l.length Sl.zero), (List.replicate l.length []), rfl, (by first | exact sl16 | (rw [sl16]; go_num) | (rw [sl16]; rfl)), rfl, rfl, rfl, rfl, rfl, HB.out, Nat.zero_le _, kB72, PlanO.start _ _ _, hid (by simp), hid (by simp [Sl.zero]), hid (fun q h => by simp [Sl.zero]), hid rfl⟩ ?_; clear sl16 kB72 HB
         rintro kJ s59 w60 ⟨i, xs, o, rfl, sl16, e0, e1, e2, e3, e12, HB', hil, k72x, hpo, hxl, hxo, hxb, hgo⟩; replace sl0 := e0.trans sl0; clear e0; replace sl1 := e1.trans sl1; clear e1; replace sl2 := e2.trans sl2; clear e2; replace sl3 := e3.trans sl3; clear e3; replace sl12 := e12.trans sl12; clear e12; have HB := hid HB'; clear HB'; have kB72 := k72x; clear k72x; have qB72 := kB72.1
         repeat ((fail_if_success refine stp ?_); with_reducible go_step)
         refine region_F ?_
         iterate 4 refine pl ?_
         refine listF_abs (fun s61 z' => ?_); replace sl0 := gs 0 z' sl0; replace sl1 := gs 1 z' sl1; replace sl2 := gs 2 z' sl2; replace sl3 := gs 3 z' sl3; replace sl12 := gs 12 z' sl12; replace sl16 := gs 16 z' sl16; have sl100 := gu 100 z'; clear z'; refine listF_nil ?_
         repeat ((fail_if_success refine stp ?_); with_reducible go_step)
         refine cond_E sl100 (by decide) ?_ ?_ <;> (clear sl100; intro h100 sl100)
         ·skip
          have hi : i < rack.length := by simpa using h100
          have hii : (i : Int) < rack.length := by omega
          obtain ⟨x, hx⟩ : ∃ y, rack[i] = y := ⟨_, rfl⟩; have Hmem := hid (show x ∈ rack by rw [← hx]; exact List.getElem_mem hi); have Hin := hid (show (-9223372036854775808 ≤ x.k.new ∧ x.k.new ≤ 9223372036854775807) ∧ x.k.steps.length ≤ 9223372036854775807 ∧ x.cs.length ≤ 9223372036854775807 from HR.out.inn x Hmem.out); obtain ⟨b, off, hae, hbs, c0, c1, c2, c3, c4⟩ := RdVls.ne (Rd.oldB HR.out.rd HB.out (by simp)) hi; subst hae; rw [hx] at c0 c1 c2 c3 c4; have Hob := hid (show ∀ q (h : q < xs.length) g, xs[q].v.ownBlock = some g → g < w60.heap.size from fun q hq g hg => (World.ownsRow.lt (hpo.own q hq) g hg).2); have hask := Hask.out x Hmem.out; have hin := asked_in hask; obtain ⟨⟨sp, er⟩, hA⟩ : ∃ z : Span × Int, asked x.k x.cs f = z := ⟨_, rfl⟩; rw [hA] at hask hin; obtain rfl : er = 0 := hask; have HA := hid hA; have HK := hid hin.1; have Hsp := hid (show spanIn sp from (show spanOk sp from hin.2.2.1).in); obtain ⟨⟨can, lat⟩, hcan⟩ : ∃ z : Fail, failsOf x.k sp f = z := ⟨_, rfl⟩
          have Hcan := hid hcan; have Hvc := hid (show vCan f rack[i] = can by unfold vCan vSp; rw [hx, hA, hcan]); have Hx := hid hx; clear hA hx hin hcan
          repeat ((fail_if_success refine stp ?_); with_reducible go_step)
          refine region_F ?_
          iterate 5 refine pl ?_
          refine pa (fun w62 B17 hB kb17' hb63 => ?_); have gb17 := HB.out.gB hB; have oB72_b17 := oB qB72 hB; have eb17 := eB hB; clear hB; clear qB72; replace kB72 := kB72.at hb63; replace hpo := PlanO.below hpo hb63; replace HB := hid (HB.out.below hb63); clear hb63; have qB72 := kB72.1; have kb17 := kb17'; clear kb17'; have qb17 := kb17.1; have cb17_0 := kb17.cell 0 rfl; have cb17_1 := kb17.cell 1 rfl; have cb17_2 := kb17.cell 2 rfl; have cb17_3 := kb17.cell 3 rfl; have zb17 := kb17.2.2; refine pl ?_; refine listF_absw (fun w64 hw' => ?_); have kb17' := cells_of hw' (Cells.set (i := 3) (Cells.set (i := 2) (Cells.set (i := 1) (Cells.set (i := 0) (kb17)))))
          (try simp only [vC, List.set_cons_zero, List.set_cons_succ] at kb17')
          have hb65 : OldB [B17] w62 w64 := oldset hw'; clear hw'; clear cb17_0 cb17_1 cb17_2 cb17_3 zb17; clear qB72 qb17; replace kb17 := kb17'; replace kB72 := kB72.oldB hb65 (by first | (simp; done) | (simp; omega)); replace hpo := PlanO.kept hpo (fun q hq g hg => hb65.block g (World.ownsRow.lt (hpo.own q hq) g hg).2 (fun hm => by have h1 := Hob.out q hq g hg; first | (simp at hm; omega) | (simp at hm; done) | simp at hm)); replace HB := hid (HB.out.more hb65 (by simp; try omega)); clear hb65; have qB72 := kB72.1; have qb17 := kb17.1; clear kb17'; refine listF_abs (fun s66 z' => ?_); replace sl0 := gs 0 z' sl0; replace sl1 := gs 1 z' sl1; replace sl2 := gs 2 z' sl2; replace sl3 := gs 3 z' sl3; replace sl12 := gs 12 z' sl12; replace sl16 := gs 16 z' sl16; have sl17 := gu 17 z'; clear z' sl100; refine listF_nil ?_
          repeat ((fail_if_success refine stp ?_); with_reducible go_step)
          obtain ⟨hbs2, d0, d1, d2, d3, d4⟩ := rdvls_at (Rd.oldB HR.out.rd HB.out (by simp)) hi Hx.out; have cb17_0 := kb17.cell 0 rfl; have cb17_1 := kb17.cell 1 rfl; have cb17_2 := kb17.cell 2 rfl; have cb17_3 := kb17.cell 3 rfl; refine regionR_F [] [] [11] [.q [], .q [], .q [], .q [], .q [], .q [], .q [], .q [], .q [], .q [], .q [], .a, .st 11] [?v40_0, ?v40_1, ?v40_2, ?v40_3, ?v40_4, ?v40_5, ?v40_6, ?v40_7, ?v40_8, ?v40_9, ?v40_10, ?v40_11, fun _ => undef] [fun _ => [], fun _ => [], fun _ => [], fun _ => [], fun _ => [], fun _ => [], fun _ => [], fun _ => [], fun _ => [], fun _ => [], fun _ => [], ?c40_11, ?c40_12] (by kernel_rfl) (by kernel_rfl) (by kernel_rfl) (by kernel_rfl) (by kernel_rfl) (by first | exact List.nodup_nil | exact List.nodup_singleton _ | (simp; done) | (simp; omega)) bc_nil ?walk40 ?dep40
          case walk40 =>
           iterate 7 refine rq ?_
           refine walkR_q (by rfl) (fun X hX wq hwq hrq => ?_) ?_
           · obtain ⟨hcq, hfq⟩ := hwq.b0
             clear hrq; go_simp
             (with_reducible exact (rasked_v x.k x.a x.c x.ca x.cc x.cs f sp 0 _ HA.out Hin.out.2.1 (Rd.oldB (HR.out.st _ Hmem.out) (HB.out.more hwq.unDrew (by simp; try omega)) (by simp)) (Rd.oldB (HR.out.ck _ Hmem.out) (HB.out.more hwq.unDrew (by simp; try omega)) (by simp)) Hin.out.2.2))
           iterate 3 refine rq ?_
           refine walkR_a (by rfl) (fun X hX wq hwq hsq => ?_) ?_
           · go_simp
             refine newB_mk ?_ ?_
             · rfl
             · rfl
           refine walkR_st (by rfl) (fun X hX wq hwq hkq => ?_) ?_
           · simp only [updC_some, updC_none, Nat.reduceEqDiff, ↓reduceIte] at hkq
             have hks := hkq.1; have hkz := hkq.2.2
             (try have hk0 := hkq.cell 0 rfl)
             (try have hk1 := hkq.cell 1 rfl)
             (try have hk2 := hkq.cell 2 rfl)
             (try have hk3 := hkq.cell 3 rfl)
             (try have hk4 := hkq.cell 4 rfl)
             (try have hk5 := hkq.cell 5 rfl)
             (try have hk6 := hkq.cell 6 rfl)
             (try have hk7 := hkq.cell 7 rfl)
             go_simp
             (first | ((with_reducible refine writeB_mk (Cells.set (Cells.set hkq)) ?_ ?_); (focus (repeat (first | (with_reducible exact Only.refl _ _) | (with_reducible refine Only.set ?_)))); rfl))
           refine walkR_nil (fun X hX w67 hwz hcz => ?_); have ka11 := hcz 11 (by simp)
           simp only [updC_some, updC_none, Nat.reduceEqDiff, ↓reduceIte] at ka11
           have la11 := hX.lo 11 rfl; clear hX hcz
           generalize X 11 = J11 at *
           (try clear X)
           skip; have hb68 := hwz.unDrew; clear hwz; have gJ := HB.out.size; replace la11 : w64.heap.size ≤ J11 := la11
           have oB72_J11 : B72 < J11 := by have := qB72; omega
           have ob17_J11 : B17 < J11 := by have := qb17; omega
           clear cb17_0 cb17_1 cb17_2 cb17_3; clear qB72 qb17; replace kB72 := kB72.oldB hb68 (by first | (simp; done) | (simp; omega)); replace kb17 := kb17.oldB hb68 (by first | (simp; done) | (simp; omega)); replace hpo := PlanO.kept hpo (fun q hq g hg => hb68.block g (World.ownsRow.lt (hpo.own q hq) g hg).2 (fun hm => by have h1 := Hob.out q hq g hg; first | (simp at hm; omega) | (simp at hm; done) | simp at hm)); replace HB := hid (HB.out.more hb68 (by simp; try omega)); clear hb68; have qB72 := kB72.1; have qb17 := kb17.1
           have gb18 : w.heap.size ≤ J11 := by omega
           have kb18 := ka11; clear ka11; have qb18 := kb18.1; refine pl ?_; refine listF_abs (fun s69 z' => ?_); replace sl0 := gs 0 z' sl0; replace sl1 := gs 1 z' sl1; replace sl2 := gs 2 z' sl2; replace sl3 := gs 3 z' sl3; replace sl12 := gs 12 z' sl12; replace sl16 := gs 16 z' sl16; replace sl17 := gs 17 z' sl17; have sl18 := gu 18 z'; clear z'; refine listF_nil ?_
           repeat ((fail_if_success refine stp ?_); with_reducible go_step)
           clear qB72 qb17 qb18; have Hbl := hid (Below.refl w67.heap.size w67); have Hl29 := hid (Rd.oldB HRl.out HB.out (by simp)); have Hs29 := hid (Rd.oldB (HR.out.st _ Hmem.out) HB.out (by simp))
           replace kb18 : Cells w67 J11 [.int .i64 sp.lo, .int .i64 sp.hi] := by first | exact kb18 | (apply Cells.conv; (focus (exact kb18)); (first | rfl | (simp; done)))
           obtain ⟨P, hP⟩ : ∃ z, planLs (planR x.k l can f u) = z := ⟨_, rfl⟩; obtain ⟨pb, hpb⟩ : ∃ z, (planR x.k l can f u).isSome = z := ⟨_, rfl⟩; have HP := hid hP; have Hpb := hid hpb; clear hP hpb; obtain ⟨N29, hN29⟩ : ∃ n, n = w67.heap.size := ⟨_, rfl⟩; refine cut_any (fun sJ wJ => (∃ a20 c20, sJ 20 = .slice a20 P.length c20 ∧ RdInts wJ a20 P ∧ ∀ x, a20 = some x → N29 ≤ x.block) ∧ sJ 21 = .bool pb ∧ sJ 0 = .slice (some ⟨b, off, none⟩) rack.length cr ∧ sJ 1 = .slice an l.length cn ∧ sJ 2 = .int .i64 f ∧ sJ 3 = .int .i64 u ∧ sJ 12 = .slice (some ⟨B72, 0, none⟩) l.length l.length ∧ sJ 16 = .int .i64 (i : Int) ∧ Below w67.heap.size w67 wJ) ?_ ?_
           · refine regionI_F (fun (LJ : Nat → Bool) (sJ : Nat → Value) (wJ : World) => Cells wJ B17 [.int .i64 x.k.new, .int .i64 x.k.wear.lo, .int .i64 x.k.wear.hi, .slice x.a x.k.steps.length x.c] ∧ Cells wJ J11 [.int .i64 sp.lo, .int .i64 sp.hi] ∧ Below w67.heap.size w67 wJ ∧ w67.heap.size ≤ wJ.heap.size ∧ (LJ 9 = true → PlT (LJ 10) (LJ 11) (LJ 13) (sJ 129) (sJ 119) (sJ 130) (sJ 20) wJ N29 P pb) ∧ (LJ 10 = true → LJ 9 = true) ∧ (LJ 11 = true → LJ 9 = true) ∧ (LJ 13 = true → LJ 9 = true) ∧ sJ 0 = .slice (some ⟨b, off, none⟩) rack.length cr ∧ sJ 1 = .slice an l.length cn ∧ sJ 2 = .int .i64 f ∧ sJ 3 = .int .i64 u ∧ sJ 12 = .slice (some ⟨B72, 0, none⟩) l.length l.length ∧ sJ 16 = .int .i64 (i : Int) ∧ sJ 17 = .pointer (some ⟨B17, 0, none⟩) ∧ sJ 18 = .pointer (some ⟨J11, 0, none⟩) ∧ (LJ 0 = true → sJ 120 = .agg #[.int .i64 x.k.new, .int .i64 x.k.wear.lo, .int .i64 x.k.wear.hi, .slice x.a x.k.steps.length x.c]) ∧ (LJ 1 = true → sJ 121 = .slice an l.length cn) ∧ (LJ 2 = true → sJ 122 = .agg #[.int .i64 x.k.new, .int .i64 x.k.wear.lo, .int .i64 x.k.wear.hi, .slice x.a x.k.steps.length x.c]) ∧ (LJ 3 = true → sJ 123 = .agg #[.int .i64 sp.lo, .int .i64 sp.hi]) ∧ (LJ 4 = true → sJ 124 = .int .i64 f) ∧ (LJ 5 = true → sJ 125 = .agg #[.int .i64 can, .int .i64 lat]) ∧ (LJ 6 = true → sJ 126 = .int .i64 can) ∧ (LJ 7 = true → sJ 127 = .int .i64 f) ∧ (LJ 8 = true → sJ 128 = .int .i64 u) ∧ (LJ 12 = true → sJ 131 = .bool pb) ∧ (LJ 14 = true → sJ 21 = .bool pb)) (by kernel_rfl) (by kernel_rfl) (by kernel_rfl) ?_ ?_ ⟨?_, ?_, ?_, ?_, ?_, ?_, ?_, ?_, ?_, ?_, ?_, ?_, ?_, ?_, ?_, trivial⟩
             · refine ⟨(by repeat (first | (with_reducible exact kb17) | (with_reducible refine Cells.drew ?_) | (with_reducible refine Cells.up ?_ _) | (with_reducible refine Cells.setFar ?_ (by omega)))), (by repeat (first | (with_reducible exact kb18) | (with_reducible refine Cells.drew ?_) | (with_reducible refine Cells.up ?_ _) | (with_reducible refine Cells.setFar ?_ (by omega)))), (by repeat (first | (with_reducible exact Hbl.out) | (with_reducible refine bdrewN ?_ _) | (with_reducible refine Below.drew ?_) | (with_reducible refine Below.setCell ?_ (by first | omega | (simp; done) | (simp; omega)) _) | (with_reducible refine Below.alloc ?_ (by first | omega | (simp; done) | (simp; omega)) _))), (by first | omega | (simp; done) | (simp; omega)), ((fun h => by simp at h)), ((fun h => by simp at h)), ((fun h => by simp at h)), ((fun h => by simp at h)), ?_, ?_, ?_, ?_, ?_, ?_, ?_, ?_, (by simp), (by simp), (by simp), (by simp), (by simp), (by simp), (by simp), (by simp), (by simp), (by simp), (by simp)⟩
               · go_simp
               · go_simp
               · go_simp
               · go_simp
               · go_simp
               · go_simp
               · go_simp
               · go_simp
             · rintro sJ wJ ⟨kB0, kB1, kLow, kSz, kT, kQ, kA11, kA13, hs0, hs1, hs2, hs3, hs12, hs16, hs17, hs18, hv0, hv1, hv2, hv3, hv4, hv5, hv6, hv7, hv8, hv12, hv14⟩
               replace hv0 := hv0 (by simp); replace hv1 := hv1 (by simp); replace hv2 := hv2 (by simp); replace hv3 := hv3 (by simp); replace hv4 := hv4 (by simp); replace hv5 := hv5 (by simp); replace hv6 := hv6 (by simp); replace hv7 := hv7 (by simp); replace hv8 := hv8 (by simp); replace hv12 := hv12 (by simp); replace hv14 := hv14 (by simp); obtain ⟨ax, cx, hT, hR9, hN9, hZ9, hP9, hQ9⟩ := kT (by simp); exact ⟨rfl, _, rfl, ⟨ax, cx, hQ9 (by simp), hR9, hN9⟩, hv14, hs0, hs1, hs2, hs3, hs12, hs16, kLow⟩
             · rintro LJ sJ wJ hL hd ⟨kB0, kB1, kLow, kSz, kT, kQ, kA11, kA13, hs0, hs1, hs2, hs3, hs12, hs16, hs17, hs18, hv0, hv1, hv2, hv3, hv4, hv5, hv6, hv7, hv8, hv12, hv14⟩ K hK
               clear hd; rw [if_pos (by rfl)]; unfold opF; have cc0_0 := kB0.cell 0 rfl; have cc0_1 := kB0.cell 1 rfl; have cc0_2 := kB0.cell 2 rfl; have cc0_3 := kB0.cell 3 rfl; have ccs0 := kB0.1; go_simp
               refine hK _ _ ⟨?_, ?_, ?_, ?_, ?_, ?_, ?_, ?_, ?_, ?_, ?_, ?_, ?_, ?_, ?_, ?_, ?_, ?_, ?_, ?_, ?_, ?_, ?_, ?_, ?_, ?_, ?_⟩ <;> first | assumption | (simp [upd, updS]; done) | (simp [upd, updS]; assumption)
             · rintro LJ sJ wJ hL hd ⟨kB0, kB1, kLow, kSz, kT, kQ, kA11, kA13, hs0, hs1, hs2, hs3, hs12, hs16, hs17, hs18, hv0, hv1, hv2, hv3, hv4, hv5, hv6, hv7, hv8, hv12, hv14⟩ K hK
               clear hd; rw [if_pos (by rfl)]; unfold opF; go_simp
               refine hK _ _ ⟨?_, ?_, ?_, ?_, ?_, ?_, ?_, ?_, ?_, ?_, ?_, ?_, ?_, ?_, ?_, ?_, ?_, ?_, ?_, ?_, ?_, ?_, ?_, ?_, ?_, ?_, ?_⟩ <;> first | assumption | (simp [upd, updS]; done) | (simp [upd, updS]; assumption)
             · rintro LJ sJ wJ hL hd ⟨kB0, kB1, kLow, kSz, kT, kQ, kA11, kA13, hs0, hs1, hs2, hs3, hs12, hs16, hs17, hs18, hv0, hv1, hv2, hv3, hv4, hv5, hv6, hv7, hv8, hv12, hv14⟩ K hK
               clear hd; rw [if_pos (by rfl)]; unfold opF; have cc0_0 := kB0.cell 0 rfl; have cc0_1 := kB0.cell 1 rfl; have cc0_2 := kB0.cell 2 rfl; have cc0_3 := kB0.cell 3 rfl; have ccs0 := kB0.1; go_simp
               refine hK _ _ ⟨?_, ?_, ?_, ?_, ?_, ?_, ?_, ?_, ?_, ?_, ?_, ?_, ?_, ?_, ?_, ?_, ?_, ?_, ?_, ?_, ?_, ?_, ?_, ?_, ?_, ?_, ?_⟩ <;> first | assumption | (simp [upd, updS]; done) | (simp [upd, updS]; assumption)
             · rintro LJ sJ wJ hL hd ⟨kB0, kB1, kLow, kSz, kT, kQ, kA11, kA13, hs0, hs1, hs2, hs3, hs12, hs16, hs17, hs18, hv0, hv1, hv2, hv3, hv4, hv5, hv6, hv7, hv8, hv12, hv14⟩ K hK
               clear hd; rw [if_pos (by rfl)]; unfold opF; have cc1_0 := kB1.cell 0 rfl; have cc1_1 := kB1.cell 1 rfl; have ccs1 := kB1.1; go_simp
               refine hK _ _ ⟨?_, ?_, ?_, ?_, ?_, ?_, ?_, ?_, ?_, ?_, ?_, ?_, ?_, ?_, ?_, ?_, ?_, ?_, ?_, ?_, ?_, ?_, ?_, ?_, ?_, ?_, ?_⟩ <;> first | assumption | (simp [upd, updS]; done) | (simp [upd, updS]; assumption)
             · rintro LJ sJ wJ hL hd ⟨kB0, kB1, kLow, kSz, kT, kQ, kA11, kA13, hs0, hs1, hs2, hs3, hs12, hs16, hs17, hs18, hv0, hv1, hv2, hv3, hv4, hv5, hv6, hv7, hv8, hv12, hv14⟩ K hK
               clear hd; rw [if_pos (by rfl)]; unfold opF; go_simp
               refine hK _ _ ⟨?_, ?_, ?_, ?_, ?_, ?_, ?_, ?_, ?_, ?_, ?_, ?_, ?_, ?_, ?_, ?_, ?_, ?_, ?_, ?_, ?_, ?_, ?_, ?_, ?_, ?_, ?_⟩ <;> first | assumption | (simp [upd, updS]; done) | (simp [upd, updS]; assumption)
             · rintro LJ sJ wJ hL hd ⟨kB0, kB1, kLow, kSz, kT, kQ, kA11, kA13, hs0, hs1, hs2, hs3, hs12, hs16, hs17, hs18, hv0, hv1, hv2, hv3, hv4, hv5, hv6, hv7, hv8, hv12, hv14⟩ K hK
               have ga2 := hd ⟨2, .data⟩ (by simp) rfl; have gv2 := hv2 ga2; have ga3 := hd ⟨3, .data⟩ (by simp) rfl; have gv3 := hv3 ga3; have ga4 := hd ⟨4, .data⟩ (by simp) rfl; have gv4 := hv4 ga4; clear hd; rw [if_pos (by rfl)]; unfold opF; go_simp; refine (rfails_c x.k x.a x.c sp f can lat _ Hcan.out (Rd.at Hs29.out kLow) HK.out Hsp.out ⟨hf1, hf2⟩).mono ?_; rintro e wN ⟨rfl, hbN⟩; have hsN := hbN.size; exact ⟨_, rfl, hK _ _ ⟨(Cells.at (kB0) hbN), (Cells.at (kB1) hbN), (kLow.trans (hbN.mono kSz)), (by first | omega | (simp; done) | (simp; omega) | (have := hG.size; omega)), ((fun h => by have h9 := (by simpa [upd] using h : LJ 9 = true); simpa [upd, updS] using PlT.at (kT h9) hbN)), ((by simpa [upd] using kQ)), ((by simpa [upd] using kA11)), ((by simpa [upd] using kA13)), (by simpa [upd, updS] using hs0), (by simpa [upd, updS] using hs1), (by simpa [upd, updS] using hs2), (by simpa [upd, updS] using hs3), (by simpa [upd, updS] using hs12), (by simpa [upd, updS] using hs16), (by simpa [upd, updS] using hs17), (by simpa [upd, updS] using hs18), (by simpa [upd, updS] using hv0), (by simpa [upd, updS] using hv1), (by simpa [upd, updS] using hv2), (by simpa [upd, updS] using hv3), (by simpa [upd, updS] using hv4), (by simp [upd, updS]), (by simpa [upd, updS] using hv6), (by simpa [upd, updS] using hv7), (by simpa [upd, updS] using hv8), (by simpa [upd, updS] using hv12), (by simpa [upd, updS] using hv14)⟩⟩
             · rintro LJ sJ wJ hL hd ⟨kB0, kB1, kLow, kSz, kT, kQ, kA11, kA13, hs0, hs1, hs2, hs3, hs12, hs16, hs17, hs18, hv0, hv1, hv2, hv3, hv4, hv5, hv6, hv7, hv8, hv12, hv14⟩ K hK
               have ga5 := hd ⟨5, .data⟩ (by simp) rfl; have gv5 := hv5 ga5; clear hd; rw [if_pos (by rfl)]; unfold opF; go_simp
               refine hK _ _ ⟨?_, ?_, ?_, ?_, ?_, ?_, ?_, ?_, ?_, ?_, ?_, ?_, ?_, ?_, ?_, ?_, ?_, ?_, ?_, ?_, ?_, ?_, ?_, ?_, ?_, ?_, ?_⟩ <;> first | assumption | (simp [upd, updS]; done) | (simp [upd, updS]; assumption)
             · rintro LJ sJ wJ hL hd ⟨kB0, kB1, kLow, kSz, kT, kQ, kA11, kA13, hs0, hs1, hs2, hs3, hs12, hs16, hs17, hs18, hv0, hv1, hv2, hv3, hv4, hv5, hv6, hv7, hv8, hv12, hv14⟩ K hK
               clear hd; rw [if_pos (by rfl)]; unfold opF; go_simp
               refine hK _ _ ⟨?_, ?_, ?_, ?_, ?_, ?_, ?_, ?_, ?_, ?_, ?_, ?_, ?_, ?_, ?_, ?_, ?_, ?_, ?_, ?_, ?_, ?_, ?_, ?_, ?_, ?_, ?_⟩ <;> first | assumption | (simp [upd, updS]; done) | (simp [upd, updS]; assumption)
             · rintro LJ sJ wJ hL hd ⟨kB0, kB1, kLow, kSz, kT, kQ, kA11, kA13, hs0, hs1, hs2, hs3, hs12, hs16, hs17, hs18, hv0, hv1, hv2, hv3, hv4, hv5, hv6, hv7, hv8, hv12, hv14⟩ K hK
               clear hd; rw [if_pos (by rfl)]; unfold opF; go_simp
               refine hK _ _ ⟨?_, ?_, ?_, ?_, ?_, ?_, ?_, ?_, ?_, ?_, ?_, ?_, ?_, ?_, ?_, ?_, ?_, ?_, ?_, ?_, ?_, ?_, ?_, ?_, ?_, ?_, ?_⟩ <;> first | assumption | (simp [upd, updS]; done) | (simp [upd, updS]; assumption)
             · rintro LJ sJ wJ hL hd ⟨kB0, kB1, kLow, kSz, kT, kQ, kA11, kA13, hs0, hs1, hs2, hs3, hs12, hs16, hs17, hs18, hv0, hv1, hv2, hv3, hv4, hv5, hv6, hv7, hv8, hv12, hv14⟩ K hK
               have ga0 := hd ⟨0, .data⟩ (by simp) rfl; have gv0 := hv0 ga0; have ga1 := hd ⟨1, .data⟩ (by simp) rfl; have gv1 := hv1 ga1; have ga6 := hd ⟨6, .data⟩ (by simp) rfl; have gv6 := hv6 ga6; have ga7 := hd ⟨7, .data⟩ (by simp) rfl; have gv7 := hv7 ga7; have ga8 := hd ⟨8, .data⟩ (by simp) rfl; have gv8 := hv8 ga8; have ga5 := hd ⟨5, .chain⟩ (by simp) rfl; have gv5 := hv5 ga5; clear hd; rw [if_pos (by rfl)]; unfold opF; go_simp; refine (rplan_o x.k x.a x.c an cn l can f u _ N29 (by have := kLow.size; omega) HP.out Hpb.out (Rd.at Hs29.out kLow) HK.out (Rd.at Hl29.out kLow) hl20 Hnb.out).mono ?_; rintro e wN ⟨vN, rfl, hO, hbN⟩; have hsN := hbN.size; exact ⟨_, rfl, hK _ _ ⟨(Cells.at (kB0) hbN), (Cells.at (kB1) hbN), (kLow.trans (hbN.mono kSz)), (by first | omega | (simp; done) | (simp; omega) | (have := hG.size; omega)), ((fun _ => by obtain ⟨a1, c1, t1, t2, t3, _, _, _⟩ := hO; exact ⟨a1, c1, by simpa [updS] using t1, t2, t3, fun h => absurd (kQ (by simpa [upd] using h)) (by rw [hL]; decide), fun h => absurd (kA11 (by simpa [upd] using h)) (by rw [hL]; decide), fun h => absurd (kA13 (by simpa [upd] using h)) (by rw [hL]; decide)⟩)), ((by simp [upd])), ((by simp [upd])), ((by simp [upd])), (by simpa [upd, updS] using hs0), (by simpa [upd, updS] using hs1), (by simpa [upd, updS] using hs2), (by simpa [upd, updS] using hs3), (by simpa [upd, updS] using hs12), (by simpa [upd, updS] using hs16), (by simpa [upd, updS] using hs17), (by simpa [upd, updS] using hs18), (by simpa [upd, updS] using hv0), (by simpa [upd, updS] using hv1), (by simpa [upd, updS] using hv2), (by simpa [upd, updS] using hv3), (by simpa [upd, updS] using hv4), (by simpa [upd, updS] using hv5), (by simpa [upd, updS] using hv6), (by simpa [upd, updS] using hv7), (by simpa [upd, updS] using hv8), (by simpa [upd, updS] using hv12), (by simpa [upd, updS] using hv14)⟩⟩
             · rintro LJ sJ wJ hL hd ⟨kB0, kB1, kLow, kSz, kT, kQ, kA11, kA13, hs0, hs1, hs2, hs3, hs12, hs16, hs17, hs18, hv0, hv1, hv2, hv3, hv4, hv5, hv6, hv7, hv8, hv12, hv14⟩ K hK
               have ga9 := hd ⟨9, .data⟩ (by simp) rfl; clear hd; rw [if_pos (by rfl)]; unfold opF; obtain ⟨ax, cx, hT, hR9, hN9, hZ9, hP9, hQ9⟩ := kT ga9; go_simp
               refine hK _ _ ⟨?_, ?_, ?_, ?_, ((fun _ => ⟨ax, cx, by simpa [updS] using hT, hR9, hN9, fun _ => by simp [updS], by simpa [upd, updS] using hP9, by simpa [upd, updS] using hQ9⟩)), ?_, ?_, ?_, ?_, ?_, ?_, ?_, ?_, ?_, ?_, ?_, ?_, ?_, ?_, ?_, ?_, ?_, ?_, ?_, ?_, ?_, ?_⟩ <;> first | assumption | (simp [upd, updS]; done) | (simp [upd, updS]; assumption)
             · rintro LJ sJ wJ hL hd ⟨kB0, kB1, kLow, kSz, kT, kQ, kA11, kA13, hs0, hs1, hs2, hs3, hs12, hs16, hs17, hs18, hv0, hv1, hv2, hv3, hv4, hv5, hv6, hv7, hv8, hv12, hv14⟩ K hK
               have ga10 := hd ⟨10, .data⟩ (by simp) rfl; clear hd; rw [if_pos (by rfl)]; unfold opF; have ga9' := kQ ga10; obtain ⟨ax, cx, hT, hR9, hN9, hZ9, hP9, hQ9⟩ := kT ga9'; have hZ8 := hZ9 ga10; go_simp
               refine hK _ _ ⟨?_, ?_, ?_, ?_, ((fun _ => ⟨ax, cx, by simpa [updS] using hT, hR9, hN9, by simpa [upd, updS] using hZ9, fun _ => by simp [updS], by simpa [upd, updS] using hQ9⟩)), ?_, ((fun _ => by simpa [upd] using ga9')), ?_, ?_, ?_, ?_, ?_, ?_, ?_, ?_, ?_, ?_, ?_, ?_, ?_, ?_, ?_, ?_, ?_, ?_, ?_, ?_⟩ <;> first | assumption | (simp [upd, updS]; done) | (simp [upd, updS]; assumption)
             · rintro LJ sJ wJ hL hd ⟨kB0, kB1, kLow, kSz, kT, kQ, kA11, kA13, hs0, hs1, hs2, hs3, hs12, hs16, hs17, hs18, hv0, hv1, hv2, hv3, hv4, hv5, hv6, hv7, hv8, hv12, hv14⟩ K hK
               have ga10 := hd ⟨10, .data⟩ (by simp) rfl; clear hd; rw [if_pos (by rfl)]; unfold opF; have ga9' := kQ ga10; obtain ⟨ax, cx, hT, hR9, hN9, hZ9, hP9, hQ9⟩ := kT ga9'; have hZ8 := hZ9 ga10; go_simp
               refine hK _ _ ⟨?_, ?_, ?_, ?_, ?_, ?_, ?_, ?_, ?_, ?_, ?_, ?_, ?_, ?_, ?_, ?_, ?_, ?_, ?_, ?_, ?_, ?_, ?_, ?_, ?_, ?_, ?_⟩ <;> first | assumption | (simp [upd, updS]; done) | (simp [upd, updS]; assumption)
             · rintro LJ sJ wJ hL hd ⟨kB0, kB1, kLow, kSz, kT, kQ, kA11, kA13, hs0, hs1, hs2, hs3, hs12, hs16, hs17, hs18, hv0, hv1, hv2, hv3, hv4, hv5, hv6, hv7, hv8, hv12, hv14⟩ K hK
               have ga11 := hd ⟨11, .data⟩ (by simp) rfl; have ga9 := hd ⟨9, .chain⟩ (by simp) rfl; have ga0 := hd ⟨0, .phase⟩ (by simp) rfl; have gv0 := hv0 ga0; have ga1 := hd ⟨1, .phase⟩ (by simp) rfl; have gv1 := hv1 ga1; have ga2 := hd ⟨2, .phase⟩ (by simp) rfl; have gv2 := hv2 ga2; have ga3 := hd ⟨3, .phase⟩ (by simp) rfl; have gv3 := hv3 ga3; have ga4 := hd ⟨4, .phase⟩ (by simp) rfl; have gv4 := hv4 ga4; have ga5 := hd ⟨5, .phase⟩ (by simp) rfl; have gv5 := hv5 ga5; have ga6 := hd ⟨6, .phase⟩ (by simp) rfl; have gv6 := hv6 ga6; have ga7 := hd ⟨7, .phase⟩ (by simp) rfl; have gv7 := hv7 ga7; have ga8 := hd ⟨8, .phase⟩ (by simp) rfl; have gv8 := hv8 ga8; have ga9 := hd ⟨9, .phase⟩ (by simp) rfl; have ga10 := hd ⟨10, .phase⟩ (by simp) rfl; have ga11 := hd ⟨11, .phase⟩ (by simp) rfl; clear hd; rw [if_pos (by rfl)]; unfold opF; obtain ⟨ax, cx, hT, hR9, hN9, hZ9, hP9, hQ9⟩ := kT ga9; have hP8 := hP9 ga11; go_simp
               refine hK _ _ ⟨?_, ?_, ?_, ?_, ((fun _ => ⟨ax, cx, by simpa [updS] using hT, hR9, hN9, by simpa [upd, updS] using hZ9, by simpa [upd, updS] using hP9, fun _ => by simp [updS]⟩)), ?_, ?_, ?_, ?_, ?_, ?_, ?_, ?_, ?_, ?_, ?_, ?_, ?_, ?_, ?_, ?_, ?_, ?_, ?_, ?_, ?_, ?_⟩ <;> first | assumption | (simp [upd, updS]; done) | (simp [upd, updS]; assumption)
             · rintro LJ sJ wJ hL hd ⟨kB0, kB1, kLow, kSz, kT, kQ, kA11, kA13, hs0, hs1, hs2, hs3, hs12, hs16, hs17, hs18, hv0, hv1, hv2, hv3, hv4, hv5, hv6, hv7, hv8, hv12, hv14⟩ K hK
               have ga12 := hd ⟨12, .data⟩ (by simp) rfl; have gv12 := hv12 ga12; have ga13 := hd ⟨13, .chain⟩ (by simp) rfl; have ga0 := hd ⟨0, .phase⟩ (by simp) rfl; have gv0 := hv0 ga0; have ga1 := hd ⟨1, .phase⟩ (by simp) rfl; have gv1 := hv1 ga1; have ga2 := hd ⟨2, .phase⟩ (by simp) rfl; have gv2 := hv2 ga2; have ga3 := hd ⟨3, .phase⟩ (by simp) rfl; have gv3 := hv3 ga3; have ga4 := hd ⟨4, .phase⟩ (by simp) rfl; have gv4 := hv4 ga4; have ga5 := hd ⟨5, .phase⟩ (by simp) rfl; have gv5 := hv5 ga5; have ga6 := hd ⟨6, .phase⟩ (by simp) rfl; have gv6 := hv6 ga6; have ga7 := hd ⟨7, .phase⟩ (by simp) rfl; have gv7 := hv7 ga7; have ga8 := hd ⟨8, .phase⟩ (by simp) rfl; have gv8 := hv8 ga8; have ga9 := hd ⟨9, .phase⟩ (by simp) rfl; have ga10 := hd ⟨10, .phase⟩ (by simp) rfl; have ga11 := hd ⟨11, .phase⟩ (by simp) rfl; have ga12 := hd ⟨12, .phase⟩ (by simp) rfl; have gv12 := hv12 ga12; have ga13 := hd ⟨13, .phase⟩ (by simp) rfl; clear hd; rw [if_pos (by rfl)]; unfold opF
               go_simp
               refine hK _ _ ⟨?_, ?_, ?_, ?_, ?_, ?_, ?_, ?_, ?_, ?_, ?_, ?_, ?_, ?_, ?_, ?_, ?_, ?_, ?_, ?_, ?_, ?_, ?_, ?_, ?_, ?_, ?_⟩ <;> first | assumption | (simp [upd, updS]; done) | (simp [upd, updS]; assumption)
           rintro sM29 w70 ⟨⟨a20, c20, sl20', hp20, hN20⟩, sl21', e0, e1, e2, e3, e12, e16, hbM⟩; clear sl0 sl1 sl2 sl3 sl12 sl16 sl17 sl18; have sl0 := e0; clear e0; have sl1 := e1; clear e1; have sl2 := e2; clear e2; have sl3 := e3; clear e3; have sl12 := e12; clear e12; have sl16 := e16; clear e16; have sl20 := sl20'; have sl21 := sl21'; clear sl20' sl21'
           obtain ⟨g20, hgN, hg20⟩ : ∃ g, N29 ≤ g ∧ ∀ x, a20 = some x → x.block = g := by
              cases a20 with
              | none => exact ⟨N29, Nat.le_refl _, fun x h => by cases h⟩
              | some y => exact ⟨y.block, hN20 y rfl, fun x h => by cases h; rfl⟩
           have hg72' : B72 < g20 := by have := kB72.1; omega
           replace hpo := PlanO.avoid (av' := [g20]) hpo (fun b hb => by rw [List.mem_singleton] at hb; omega); replace kB72 := kB72.at hbM; replace kb17 := kb17.at hbM; replace kb18 := kb18.at hbM; replace hpo := PlanO.below hpo hbM; replace HB := hid (HB.out.below hbM); clear hbM Hbl; have qB72 := kB72.1; have qb17 := kb17.1; have qb18 := kb18.1
           repeat ((fail_if_success refine stp ?_); with_reducible go_step)
           refine region_F ?_; refine pl ?_; refine pl ?_; refine listF_abs (fun s72 z' => ?_); replace sl0 := gs 0 z' sl0; replace sl1 := gs 1 z' sl1; replace sl2 := gs 2 z' sl2; replace sl3 := gs 3 z' sl3; replace sl12 := gs 12 z' sl12; replace sl16 := gs 16 z' sl16; replace sl20 := gs 20 z' sl20; have sl133 := gu 133 z'; clear z' sl21; refine listF_nil ?_
           repeat ((fail_if_success refine stp ?_); with_reducible go_step)
           refine cond_E sl133 (by decide) ?_ ?_ <;> (clear sl133; intro h133 sl133)
           ·skip
            have hpf : pb = false := by simpa using h133
            have Hpn := hid (show planR rack[i].k l (vCan f rack[i]) f u = none by rw [Hvc.out, Hx.out]; have h := Hpb.out; rw [hpf] at h; cases hz : planR x.k l can f u with | none => rfl | some _ => rw [hz] at h; cases h); have Hr := hid (show repRes rack l f u = ([], 9) by unfold repRes; rw [if_neg (by rw [He.out]; decide), hgo.out, repGo_down hi Hpn.out])
            repeat ((fail_if_success refine stp ?_); with_reducible go_step)
            refine region_F ?_; refine pl ?_; refine pl ?_; refine listF_abs (fun s73 z' => ?_); have sl8 := gu 8 z'; have sl9 := gu 9 z'; clear z' sl0 sl1 sl2 sl3 sl12 sl16 sl20 sl133; refine listF_nil ?_
            repeat ((fail_if_success refine stp ?_); with_reducible go_step)
            refine ret_F _ (res_tt Try.results36 ((getD_F (by decide)).trans sl8) ((getD_F (by decide)).trans sl9)) ?_; exact rep_no Hr.out HB.out.toBelow
           ·skip
            have hpt : pb = true := by simpa using h133
            obtain ⟨p, hp⟩ : ∃ p, planR x.k l can f u = some p := by have h := Hpb.out; rw [hpt] at h; exact Option.isSome_iff_exists.1 h
            have hPp : P = p := by have h := HP.out; rw [hp] at h; exact h.symm
            subst hPp; have Hpin := hid (plan_in _ hp); have Hpln := hid (planR_len hp); have Hp := hid (show planR rack[i].k l (vCan f rack[i]) f u = some P by rw [Hvc.out, Hx.out]; exact hp); clear hp
            repeat ((fail_if_success refine stp ?_); with_reducible go_step)
            refine region_F ?_; refine pl ?_; refine listF_abs (fun s74 z' => ?_); replace sl0 := gs 0 z' sl0; replace sl1 := gs 1 z' sl1; replace sl2 := gs 2 z' sl2; replace sl3 := gs 3 z' sl3; replace sl12 := gs 12 z' sl12; replace sl16 := gs 16 z' sl16; replace sl20 := gs 20 z' sl20; have sl22 := gu 22 z'; clear z' sl133; refine listF_nil ?_
            repeat ((fail_if_success refine stp ?_); with_reducible go_step)
            clear qB72 qb17 qb18; have hc4_0 := hid sl0; have hc4_1 := hid sl1; have hc4_2 := hid sl2; have hc4_3 := hid sl3; have hc4_12 := hid sl12; have hc4_16 := hid sl16; have hc4_20 := hid sl20; refine loop_F (n := 157) (fun kJ sJ wJ => ∃ (n : Nat) (xs2 : List Sl), kJ = P.length - n ∧ sJ 22 = .int .i64 (n : Int) ∧ sJ 0 = s74 0 ∧ sJ 1 = s74 1 ∧ sJ 2 = s74 2 ∧ sJ 3 = s74 3 ∧ sJ 12 = s74 12 ∧ sJ 16 = s74 16 ∧ sJ 20 = s74 20 ∧ OldB [] w wJ ∧ n ≤ P.length ∧ Cells wJ B72 (xs2.flatMap Sl.cs) ∧ RdInts wJ a20 P ∧ PlanO (B72 + 1) [g20] wJ xs2 ∧ Hid (xs2.length = l.length) ∧ Hid (xs2.map Sl.l = addPlan o i (P.take n)) ∧ Hid (∀ q (h : q < xs2.length), xs2[q].l.length ≤ 20 * i + n)) ⟨0, xs, rfl, (by first | exact sl22 | (rw [sl22]; go_num) | (rw [sl22]; rfl)), rfl, rfl, rfl, rfl, rfl, rfl, rfl, HB.out, Nat.zero_le _, kB72, hp20, hpo, hxl, hid (by rw [hxo.out]; rfl), hid (fun q h => by have := hxb.out q h; omega)⟩ ?_; clear sl22 kB72 kb17 kb18 hpo HB
            rintro kJ s75 w76 ⟨n, xs2, rfl, sl22, e0, e1, e2, e3, e12, e16, e20, HB', hnP0, k72x, hp20, hpo2, hx2l, hx2o, hx2b⟩; replace sl0 := e0.trans sl0; clear e0; replace sl1 := e1.trans sl1; clear e1; replace sl2 := e2.trans sl2; clear e2; replace sl3 := e3.trans sl3; clear e3; replace sl12 := e12.trans sl12; clear e12; replace sl16 := e16.trans sl16; clear e16; replace sl20 := e20.trans sl20; clear e20; have HB := hid HB'; clear HB'; have kB72 := k72x; clear k72x; have qB72 := kB72.1
            repeat ((fail_if_success refine stp ?_); with_reducible go_step)
            refine region_F ?_
            iterate 4 refine pl ?_
            refine listF_abs (fun s77 z' => ?_); replace sl0 := gs 0 z' sl0; replace sl1 := gs 1 z' sl1; replace sl2 := gs 2 z' sl2; replace sl3 := gs 3 z' sl3; replace sl12 := gs 12 z' sl12; replace sl16 := gs 16 z' sl16; replace sl20 := gs 20 z' sl20; replace sl22 := gs 22 z' sl22; have sl137 := gu 137 z'; clear z'; refine listF_nil ?_
            repeat ((fail_if_success refine stp ?_); with_reducible go_step)
            refine cond_E sl137 (by decide) ?_ ?_ <;> (clear sl137; intro h137 sl137)
            ·skip
             have hn : n < P.length := by simpa using h137
             have hnn : (n : Int) < P.length := by omega
             obtain ⟨bp, op, hap, hbp, -⟩ := RdInts.ne hp20 hn; subst hap; obtain rfl : bp = g20 := hg20 _ rfl; obtain ⟨j, hpj⟩ : ∃ j : Nat, P[n] = (j : Int) := ⟨P[n].toNat, by have := Hpin.out P[n] (List.getElem_mem hn); omega⟩
             have hjl0 : j < l.length := by have := Hpin.out P[n] (List.getElem_mem hn); omega
             have hjl : (j : Int) < l.length := by omega
             have hjx : j < xs2.length := by rw [hx2l.out]; exact hjl0
             have Hpj := hid hpj; clear hpj
             have hn20 : P.length ≤ 20 := by have := Hpln.out; omega
             have hxj := hx2b.out j hjx; have hg72 : B72 < bp := hg72'
             repeat ((fail_if_success refine stp ?_); with_reducible go_step)
             clear qB72; have hlw := HB.out.toBelow; obtain ⟨NW, hNWd⟩ : ∃ n, n = w76.heap.size := ⟨_, rfl⟩; have hkeep : RpK B72 j xs2 (some ⟨bp, op, none⟩) P NW w76 := ⟨fun q hq _ => hpo2.own q hq, hp20, by omega⟩
             have hNg : xs2[j].v.ownBlock ≠ some bp := fun e => hpo2.av j hjx _ e (by simp)
             have h72N : B72 + 1 ≤ w76.heap.size := kB72.1
             have hav9 : ∀ b ∈ [bp], b < NW := by intro b hb; rw [List.mem_singleton] at hb; omega
             refine cut_any (fun sJ wJ => (∃ xs9, Cells wJ B72 (xs9.flatMap Sl.cs) ∧ PlanO (B72 + 1) [bp] wJ xs9 ∧ xs9.length = l.length ∧ xs9.map Sl.l = addPlan o i (P.take (n + 1)) ∧ ∀ q (h : q < xs9.length), xs9[q].l.length ≤ 20 * i + (n + 1)) ∧ RdInts wJ (some ⟨bp, op, none⟩) P ∧ sJ 0 = .slice (some ⟨b, off, none⟩) rack.length cr ∧ sJ 1 = .slice an l.length cn ∧ sJ 2 = .int .i64 f ∧ sJ 3 = .int .i64 u ∧ sJ 12 = .slice (some ⟨B72, 0, none⟩) l.length l.length ∧ sJ 16 = .int .i64 (i : Int) ∧ sJ 20 = .slice (some ⟨bp, op, none⟩) P.length c20 ∧ sJ 22 = .int .i64 (n : Int) ∧ Below w.heap.size w wJ) ?_ ?_
             · refine regionI_F (fun (LJ : Nat → Bool) (sJ : Nat → Value) (wJ : World) => (LJ 16 = false → Cells wJ B72 (xs2.flatMap Sl.cs)) ∧ (LJ 16 = true → Cells wJ B72 (((xs2.flatMap Sl.cs)).set j (sJ 154))) ∧ (LJ 16 = true → LJ 14 = true) ∧ Below w.heap.size w wJ ∧ (B72 + 1) ≤ wJ.heap.size ∧ RpK B72 j xs2 (some ⟨bp, op, none⟩) P NW wJ ∧ (LJ 14 = true → ∀ g, (sJ 154).ownBlock = some g → xs2[j].v.ownBlock = some g ∨ NW ≤ g) ∧ (LJ 16 = true → LJ 11 = true) ∧ sJ 0 = .slice (some ⟨b, off, none⟩) rack.length cr ∧ sJ 1 = .slice an l.length cn ∧ sJ 2 = .int .i64 f ∧ sJ 3 = .int .i64 u ∧ sJ 12 = .slice (some ⟨B72, 0, none⟩) l.length l.length ∧ sJ 16 = .int .i64 (i : Int) ∧ sJ 20 = .slice (some ⟨bp, op, none⟩) P.length c20 ∧ sJ 22 = .int .i64 (n : Int) ∧ (LJ 0 = true → sJ 140 = .slice (some ⟨B72, 0, none⟩) l.length l.length) ∧ (LJ 1 = true → sJ 141 = .slice (some ⟨bp, op, none⟩) P.length c20) ∧ (LJ 2 = true → sJ 142 = .int .i64 (n : Int)) ∧ (LJ 3 = true → sJ 143 = .pointer (some ⟨bp, op + n, none⟩)) ∧ (LJ 4 = true → sJ 144 = .int .i64 (j : Int)) ∧ (LJ 5 = true → sJ 145 = .slice (some ⟨B72, 0, none⟩) l.length l.length) ∧ (LJ 6 = true → sJ 146 = .slice (some ⟨bp, op, none⟩) P.length c20) ∧ (LJ 7 = true → sJ 147 = .int .i64 (n : Int)) ∧ (LJ 8 = true → sJ 148 = .pointer (some ⟨bp, op + n, none⟩)) ∧ (LJ 9 = true → sJ 149 = .int .i64 (j : Int)) ∧ (LJ 10 = true → sJ 150 = .pointer (some ⟨B72, j, none⟩)) ∧ (LJ 11 = true → sJ 151 = xs2[j].v) ∧ (LJ 12 = true → sJ 152 = .int .i64 (i : Int)) ∧ (LJ 15 = true → sJ 155 = .pointer (some ⟨B72, j, none⟩)) ∧ (LJ 14 = false → Own int1 1 3 (B72 + 1) wJ xs2[j].v xs2[j].l) ∧ (LJ 13 = true → Own int1 1 3 (B72 + 1) wJ (sJ 153) [(i : Int)]) ∧ (LJ 14 = true → Own int1 1 3 (B72 + 1) wJ (sJ 154) (xs2[j].l ++ [(i : Int)])) ∧ (LJ 14 = false → LJ 13 = true → Apart xs2[j].v (sJ 153)) ∧ (LJ 13 = true → LJ 14 = true → Apart (sJ 153) (sJ 154))) (by kernel_rfl) (by kernel_rfl) (by kernel_rfl) ?_ ?_ ⟨?_, ?_, ?_, ?_, ?_, ?_, ?_, ?_, ?_, ?_, ?_, ?_, ?_, ?_, ?_, ?_, ?_, trivial⟩
               · refine ⟨fun _ => (by repeat (first | (with_reducible exact kB72) | (with_reducible refine Cells.drew ?_) | (with_reducible refine Cells.up ?_ _) | (with_reducible refine Cells.setFar ?_ (by omega)))), (by simp), (by simp), (by repeat (first | (with_reducible exact hlw) | (with_reducible refine bdrewN ?_ _) | (with_reducible refine Below.drew ?_) | (with_reducible refine Below.setCell ?_ (by first | omega | (simp; done) | (simp; omega)) _) | (with_reducible refine Below.alloc ?_ (by first | omega | (simp; done) | (simp; omega)) _))), (by first | omega | (simp; done) | (simp; omega)), (hkeep.drew), ((fun h => by simp at h)), (by simp), ?_, ?_, ?_, ?_, ?_, ?_, ?_, ?_, (by simp), (by simp), (by simp), (by simp), (by simp), (by simp), (by simp), (by simp), (by simp), (by simp), (by simp), (by simp), (by simp), (by simp), (fun _ => (hpo2.own j hjx)), (by simp), (by simp), (by simp), (by simp)⟩
                 · go_simp
                 · go_simp
                 · go_simp
                 · go_simp
                 · go_simp
                 · go_simp
                 · go_simp
                 · go_simp
               · rintro sJ wJ ⟨kB0, kC0, kO0, kLow, kSz, kKeep, kV9, kZ16_11, hs0, hs1, hs2, hs3, hs12, hs16, hs20, hs22, hv0, hv1, hv2, hv3, hv4, hv5, hv6, hv7, hv8, hv9, hv10, hv11, hv12, hv15, kP0, kW13, kW14, kEP0_W13, kEW13_W14⟩
                 replace kB0 := kC0 (by simp); clear kC0; clear kO0; clear kZ16_11; replace hv0 := hv0 (by simp); replace hv1 := hv1 (by simp); replace hv2 := hv2 (by simp); replace hv3 := hv3 (by simp); replace hv4 := hv4 (by simp); replace hv5 := hv5 (by simp); replace hv6 := hv6 (by simp); replace hv7 := hv7 (by simp); replace hv8 := hv8 (by simp); replace hv9 := hv9 (by simp); replace hv10 := hv10 (by simp); replace hv11 := hv11 (by simp); replace hv12 := hv12 (by simp); replace hv15 := hv15 (by simp); clear kP0; replace kW13 := kW13 (by simp); replace kW14 := kW14 (by simp); clear kEP0_W13; replace kEW13_W14 := kEW13_W14 (by simp) (by simp); obtain ⟨x', hx1, hx2⟩ := Own.toSl kW14; have hv9 := kV9 (by simp); rw [hx1] at kB0 kW14 hv9; rw [sls_set] at kB0; have hpl := PlanO.step hpo2 hjx kKeep.ox (by rw [hx2]; exact kW14) (by rw [← hNWd]; exact hv9) (by rw [← hNWd]; exact hav9)
                 exact ⟨rfl, _, rfl, ⟨xs2.set j x', kB0, hpl, by rw [List.length_set]; exact hx2l.out, by rw [List.map_set, hx2, take_one hn Hpj.out, addPlan_snoc, ← hx2o.out, Int.toNat_natCast]; congr 2; rw [getD_get (by simpa using hjx)]; simp, fun q hq => by
                 rw [List.length_set] at hq
                 by_cases e : j = q
                 · subst e; simp only [List.getElem_set_self, hx2, List.length_append, List.length_cons, List.length_nil]; have := hx2b.out j hq; omega
                 · simp only [List.getElem_set_ne e]; have := hx2b.out q hq; omega⟩, kKeep.rp, hs0, hs1, hs2, hs3, hs12, hs16, hs20, hs22, kLow⟩
               · rintro LJ sJ wJ hL hd ⟨kB0, kC0, kO0, kLow, kSz, kKeep, kV9, kZ16_11, hs0, hs1, hs2, hs3, hs12, hs16, hs20, hs22, hv0, hv1, hv2, hv3, hv4, hv5, hv6, hv7, hv8, hv9, hv10, hv11, hv12, hv15, kP0, kW13, kW14, kEP0_W13, kEW13_W14⟩ K hK
                 clear hd; rw [if_pos (by rfl)]; unfold opF; go_simp
                 refine hK _ _ ⟨?_, ?_, ?_, ?_, ?_, ?_, ?_, ?_, ?_, ?_, ?_, ?_, ?_, ?_, ?_, ?_, ?_, ?_, ?_, ?_, ?_, ?_, ?_, ?_, ?_, ?_, ?_, ?_, ?_, ?_, ?_, ?_, ?_, ?_, ?_⟩ <;> first | assumption | (simp [upd, updS]; done) | (simp [upd, updS]; assumption)
               · rintro LJ sJ wJ hL hd ⟨kB0, kC0, kO0, kLow, kSz, kKeep, kV9, kZ16_11, hs0, hs1, hs2, hs3, hs12, hs16, hs20, hs22, hv0, hv1, hv2, hv3, hv4, hv5, hv6, hv7, hv8, hv9, hv10, hv11, hv12, hv15, kP0, kW13, kW14, kEP0_W13, kEW13_W14⟩ K hK
                 clear hd; rw [if_pos (by rfl)]; unfold opF; go_simp
                 refine hK _ _ ⟨?_, ?_, ?_, ?_, ?_, ?_, ?_, ?_, ?_, ?_, ?_, ?_, ?_, ?_, ?_, ?_, ?_, ?_, ?_, ?_, ?_, ?_, ?_, ?_, ?_, ?_, ?_, ?_, ?_, ?_, ?_, ?_, ?_, ?_, ?_⟩ <;> first | assumption | (simp [upd, updS]; done) | (simp [upd, updS]; assumption)
               · rintro LJ sJ wJ hL hd ⟨kB0, kC0, kO0, kLow, kSz, kKeep, kV9, kZ16_11, hs0, hs1, hs2, hs3, hs12, hs16, hs20, hs22, hv0, hv1, hv2, hv3, hv4, hv5, hv6, hv7, hv8, hv9, hv10, hv11, hv12, hv15, kP0, kW13, kW14, kEP0_W13, kEW13_W14⟩ K hK
                 clear hd; rw [if_pos (by rfl)]; unfold opF; go_simp
                 refine hK _ _ ⟨?_, ?_, ?_, ?_, ?_, ?_, ?_, ?_, ?_, ?_, ?_, ?_, ?_, ?_, ?_, ?_, ?_, ?_, ?_, ?_, ?_, ?_, ?_, ?_, ?_, ?_, ?_, ?_, ?_, ?_, ?_, ?_, ?_, ?_, ?_⟩ <;> first | assumption | (simp [upd, updS]; done) | (simp [upd, updS]; assumption)
               · rintro LJ sJ wJ hL hd ⟨kB0, kC0, kO0, kLow, kSz, kKeep, kV9, kZ16_11, hs0, hs1, hs2, hs3, hs12, hs16, hs20, hs22, hv0, hv1, hv2, hv3, hv4, hv5, hv6, hv7, hv8, hv9, hv10, hv11, hv12, hv15, kP0, kW13, kW14, kEP0_W13, kEW13_W14⟩ K hK
                 have ga1 := hd ⟨1, .data⟩ (by simp) rfl; have gv1 := hv1 ga1; have ga2 := hd ⟨2, .data⟩ (by simp) rfl; have gv2 := hv2 ga2; clear hd; rw [if_pos (by rfl)]; unfold opF; go_simp
                 refine hK _ _ ⟨?_, ?_, ?_, ?_, ?_, ?_, ?_, ?_, ?_, ?_, ?_, ?_, ?_, ?_, ?_, ?_, ?_, ?_, ?_, ?_, ?_, ?_, ?_, ?_, ?_, ?_, ?_, ?_, ?_, ?_, ?_, ?_, ?_, ?_, ?_⟩ <;> first | assumption | (simp [upd, updS]; done) | (simp [upd, updS]; assumption)
               · rintro LJ sJ wJ hL hd ⟨kB0, kC0, kO0, kLow, kSz, kKeep, kV9, kZ16_11, hs0, hs1, hs2, hs3, hs12, hs16, hs20, hs22, hv0, hv1, hv2, hv3, hv4, hv5, hv6, hv7, hv8, hv9, hv10, hv11, hv12, hv15, kP0, kW13, kW14, kEP0_W13, kEW13_W14⟩ K hK
                 have ga3 := hd ⟨3, .data⟩ (by simp) rfl; have gv3 := hv3 ga3; clear hd; rw [if_pos (by rfl)]; unfold opF; have cpn := rd_at1 kKeep.rp hn Hpj.out; go_simp
                 refine hK _ _ ⟨?_, ?_, ?_, ?_, ?_, ?_, ?_, ?_, ?_, ?_, ?_, ?_, ?_, ?_, ?_, ?_, ?_, ?_, ?_, ?_, ?_, ?_, ?_, ?_, ?_, ?_, ?_, ?_, ?_, ?_, ?_, ?_, ?_, ?_, ?_⟩ <;> first | assumption | (simp [upd, updS]; done) | (simp [upd, updS]; assumption)
               · rintro LJ sJ wJ hL hd ⟨kB0, kC0, kO0, kLow, kSz, kKeep, kV9, kZ16_11, hs0, hs1, hs2, hs3, hs12, hs16, hs20, hs22, hv0, hv1, hv2, hv3, hv4, hv5, hv6, hv7, hv8, hv9, hv10, hv11, hv12, hv15, kP0, kW13, kW14, kEP0_W13, kEW13_W14⟩ K hK
                 clear hd; rw [if_pos (by rfl)]; unfold opF; go_simp
                 refine hK _ _ ⟨?_, ?_, ?_, ?_, ?_, ?_, ?_, ?_, ?_, ?_, ?_, ?_, ?_, ?_, ?_, ?_, ?_, ?_, ?_, ?_, ?_, ?_, ?_, ?_, ?_, ?_, ?_, ?_, ?_, ?_, ?_, ?_, ?_, ?_, ?_⟩ <;> first | assumption | (simp [upd, updS]; done) | (simp [upd, updS]; assumption)
               · rintro LJ sJ wJ hL hd ⟨kB0, kC0, kO0, kLow, kSz, kKeep, kV9, kZ16_11, hs0, hs1, hs2, hs3, hs12, hs16, hs20, hs22, hv0, hv1, hv2, hv3, hv4, hv5, hv6, hv7, hv8, hv9, hv10, hv11, hv12, hv15, kP0, kW13, kW14, kEP0_W13, kEW13_W14⟩ K hK
                 clear hd; rw [if_pos (by rfl)]; unfold opF; go_simp
                 refine hK _ _ ⟨?_, ?_, ?_, ?_, ?_, ?_, ?_, ?_, ?_, ?_, ?_, ?_, ?_, ?_, ?_, ?_, ?_, ?_, ?_, ?_, ?_, ?_, ?_, ?_, ?_, ?_, ?_, ?_, ?_, ?_, ?_, ?_, ?_, ?_, ?_⟩ <;> first | assumption | (simp [upd, updS]; done) | (simp [upd, updS]; assumption)
               · rintro LJ sJ wJ hL hd ⟨kB0, kC0, kO0, kLow, kSz, kKeep, kV9, kZ16_11, hs0, hs1, hs2, hs3, hs12, hs16, hs20, hs22, hv0, hv1, hv2, hv3, hv4, hv5, hv6, hv7, hv8, hv9, hv10, hv11, hv12, hv15, kP0, kW13, kW14, kEP0_W13, kEW13_W14⟩ K hK
                 clear hd; rw [if_pos (by rfl)]; unfold opF; go_simp
                 refine hK _ _ ⟨?_, ?_, ?_, ?_, ?_, ?_, ?_, ?_, ?_, ?_, ?_, ?_, ?_, ?_, ?_, ?_, ?_, ?_, ?_, ?_, ?_, ?_, ?_, ?_, ?_, ?_, ?_, ?_, ?_, ?_, ?_, ?_, ?_, ?_, ?_⟩ <;> first | assumption | (simp [upd, updS]; done) | (simp [upd, updS]; assumption)
               · rintro LJ sJ wJ hL hd ⟨kB0, kC0, kO0, kLow, kSz, kKeep, kV9, kZ16_11, hs0, hs1, hs2, hs3, hs12, hs16, hs20, hs22, hv0, hv1, hv2, hv3, hv4, hv5, hv6, hv7, hv8, hv9, hv10, hv11, hv12, hv15, kP0, kW13, kW14, kEP0_W13, kEW13_W14⟩ K hK
                 have ga6 := hd ⟨6, .data⟩ (by simp) rfl; have gv6 := hv6 ga6; have ga7 := hd ⟨7, .data⟩ (by simp) rfl; have gv7 := hv7 ga7; clear hd; rw [if_pos (by rfl)]; unfold opF; go_simp
                 refine hK _ _ ⟨?_, ?_, ?_, ?_, ?_, ?_, ?_, ?_, ?_, ?_, ?_, ?_, ?_, ?_, ?_, ?_, ?_, ?_, ?_, ?_, ?_, ?_, ?_, ?_, ?_, ?_, ?_, ?_, ?_, ?_, ?_, ?_, ?_, ?_, ?_⟩ <;> first | assumption | (simp [upd, updS]; done) | (simp [upd, updS]; assumption)
               · rintro LJ sJ wJ hL hd ⟨kB0, kC0, kO0, kLow, kSz, kKeep, kV9, kZ16_11, hs0, hs1, hs2, hs3, hs12, hs16, hs20, hs22, hv0, hv1, hv2, hv3, hv4, hv5, hv6, hv7, hv8, hv9, hv10, hv11, hv12, hv15, kP0, kW13, kW14, kEP0_W13, kEW13_W14⟩ K hK
                 have ga8 := hd ⟨8, .data⟩ (by simp) rfl; have gv8 := hv8 ga8; clear hd; rw [if_pos (by rfl)]; unfold opF; have cpn := rd_at1 kKeep.rp hn Hpj.out; go_simp
                 refine hK _ _ ⟨?_, ?_, ?_, ?_, ?_, ?_, ?_, ?_, ?_, ?_, ?_, ?_, ?_, ?_, ?_, ?_, ?_, ?_, ?_, ?_, ?_, ?_, ?_, ?_, ?_, ?_, ?_, ?_, ?_, ?_, ?_, ?_, ?_, ?_, ?_⟩ <;> first | assumption | (simp [upd, updS]; done) | (simp [upd, updS]; assumption)
               · rintro LJ sJ wJ hL hd ⟨kB0, kC0, kO0, kLow, kSz, kKeep, kV9, kZ16_11, hs0, hs1, hs2, hs3, hs12, hs16, hs20, hs22, hv0, hv1, hv2, hv3, hv4, hv5, hv6, hv7, hv8, hv9, hv10, hv11, hv12, hv15, kP0, kW13, kW14, kEP0_W13, kEW13_W14⟩ K hK
                 have ga5 := hd ⟨5, .data⟩ (by simp) rfl; have gv5 := hv5 ga5; have ga9 := hd ⟨9, .data⟩ (by simp) rfl; have gv9 := hv9 ga9; clear hd; rw [if_pos (by rfl)]; unfold opF; go_simp
                 refine hK _ _ ⟨?_, ?_, ?_, ?_, ?_, ?_, ?_, ?_, ?_, ?_, ?_, ?_, ?_, ?_, ?_, ?_, ?_, ?_, ?_, ?_, ?_, ?_, ?_, ?_, ?_, ?_, ?_, ?_, ?_, ?_, ?_, ?_, ?_, ?_, ?_⟩ <;> first | assumption | (simp [upd, updS]; done) | (simp [upd, updS]; assumption)
               · rintro LJ sJ wJ hL hd ⟨kB0, kC0, kO0, kLow, kSz, kKeep, kV9, kZ16_11, hs0, hs1, hs2, hs3, hs12, hs16, hs20, hs22, hv0, hv1, hv2, hv3, hv4, hv5, hv6, hv7, hv8, hv9, hv10, hv11, hv12, hv15, kP0, kW13, kW14, kEP0_W13, kEW13_W14⟩ K hK
                 have ga10 := hd ⟨10, .data⟩ (by simp) rfl; have gv10 := hv10 ga10; clear hd; rw [if_pos (by rfl)]; unfold opF; have kN0 := kB0 (by cases hh : LJ 16 with | false => rfl | true => exact absurd (kZ16_11 hh) (by rw [hL]; decide)); have ccs0 := kN0.1; have cj := sls_cell kN0 hjx; go_simp
                 refine hK _ _ ⟨?_, ?_, ?_, ?_, ?_, ?_, ?_, ?_, ?_, ?_, ?_, ?_, ?_, ?_, ?_, ?_, ?_, ?_, ?_, ?_, ?_, ?_, ?_, ?_, ?_, ?_, ?_, ?_, ?_, ?_, ?_, ?_, ?_, ?_, ?_⟩ <;> first | assumption | (simp [upd, updS]; done) | (simp [upd, updS]; assumption)
               · rintro LJ sJ wJ hL hd ⟨kB0, kC0, kO0, kLow, kSz, kKeep, kV9, kZ16_11, hs0, hs1, hs2, hs3, hs12, hs16, hs20, hs22, hv0, hv1, hv2, hv3, hv4, hv5, hv6, hv7, hv8, hv9, hv10, hv11, hv12, hv15, kP0, kW13, kW14, kEP0_W13, kEW13_W14⟩ K hK
                 clear hd; rw [if_pos (by rfl)]; unfold opF; go_simp
                 refine hK _ _ ⟨?_, ?_, ?_, ?_, ?_, ?_, ?_, ?_, ?_, ?_, ?_, ?_, ?_, ?_, ?_, ?_, ?_, ?_, ?_, ?_, ?_, ?_, ?_, ?_, ?_, ?_, ?_, ?_, ?_, ?_, ?_, ?_, ?_, ?_, ?_⟩ <;> first | assumption | (simp [upd, updS]; done) | (simp [upd, updS]; assumption)
               · rintro LJ sJ wJ hL hd ⟨kB0, kC0, kO0, kLow, kSz, kKeep, kV9, kZ16_11, hs0, hs1, hs2, hs3, hs12, hs16, hs20, hs22, hv0, hv1, hv2, hv3, hv4, hv5, hv6, hv7, hv8, hv9, hv10, hv11, hv12, hv15, kP0, kW13, kW14, kEP0_W13, kEW13_W14⟩ K hK
                 have ga12 := hd ⟨12, .data⟩ (by simp) rfl; have gv12 := hv12 ga12; clear hd; rw [if_pos (by rfl)]; unfold opF; go_simp; exact hK _ _ ⟨(fun h => by have h := (by simpa [upd] using h : LJ 16 = false); exact Cells.up (kB0 h) _), (fun h => by have h := (by simpa [upd] using h : LJ 16 = true); refine Cells.up ?_ _; simpa [updS] using kC0 h), (by simpa [upd] using kO0), (kLow.alloc (by omega) _), (by first | omega | (simp; done) | (simp; omega) | (have := hG.size; omega)), ((RpK.alloc kKeep _)), ((fun h => by simpa [upd, updS] using kV9 (by simpa [upd] using h))), (by simpa [upd] using kZ16_11), (by simpa [upd, updS] using hs0), (by simpa [upd, updS] using hs1), (by simpa [upd, updS] using hs2), (by simpa [upd, updS] using hs3), (by simpa [upd, updS] using hs12), (by simpa [upd, updS] using hs16), (by simpa [upd, updS] using hs20), (by simpa [upd, updS] using hs22), (by simpa [upd, updS] using hv0), (by simpa [upd, updS] using hv1), (by simpa [upd, updS] using hv2), (by simpa [upd, updS] using hv3), (by simpa [upd, updS] using hv4), (by simpa [upd, updS] using hv5), (by simpa [upd, updS] using hv6), (by simpa [upd, updS] using hv7), (by simpa [upd, updS] using hv8), (by simpa [upd, updS] using hv9), (by simpa [upd, updS] using hv10), (by simpa [upd, updS] using hv11), (by simpa [upd, updS] using hv12), (by simpa [upd, updS] using hv15), (fun h1 => by have h1 := (by simpa [upd] using h1 : LJ 14 = false); simpa [updS] using Own.alloc (kP0 h1) _), (fun _ => by first | exact Own.lit (by omega) (by unfold maxLen; simp) (by rfl) (fun _ => rfl) | (simp only [updS_some, ↓reduceIte]; exact Own.lit (by omega) (by unfold maxLen; simp) (by rfl) (fun _ => rfl)) | (simpa [updS] using Own.lit (by omega) (by unfold maxLen; simp) (by rfl) (fun _ => rfl))), (fun h1 => by have h1 := (by simpa [upd] using h1 : LJ 14 = true); simpa [updS] using Own.alloc (kW14 h1) _), (fun h1 h2 => by have h1 := (by simpa [upd] using h1 : LJ 14 = false); simpa [updS] using Apart.new (kP0 h1) _ _), (fun h1 h2 => by have h2 := (by simpa [upd] using h2 : LJ 14 = true); simpa [updS] using (Apart.new (kW14 h2) _ _).symm)⟩
               · rintro LJ sJ wJ hL hd ⟨kB0, kC0, kO0, kLow, kSz, kKeep, kV9, kZ16_11, hs0, hs1, hs2, hs3, hs12, hs16, hs20, hs22, hv0, hv1, hv2, hv3, hv4, hv5, hv6, hv7, hv8, hv9, hv10, hv11, hv12, hv15, kP0, kW13, kW14, kEP0_W13, kEW13_W14⟩ K hK
                 have ga11 := hd ⟨11, .data⟩ (by simp) rfl; have gv11 := hv11 ga11; have ga13 := hd ⟨13, .data⟩ (by simp) rfl; clear hd; rw [if_pos (by rfl)]; have hcj : LJ 14 = false := hL; have kWx := kP0 hcj; have kWy := kW13 ga13; obtain ⟨ay, cy, hvy, hry, hny⟩ := Own.slice (f := int1) (m := 1) (fun _ => rfl) kWy; refine opF_app (d := 154) rfl (by decide) (.tmp 151) (.tmp 153) _ rfl 3 i1 _ 8 Try.underlying47 hi1 hz1 hy1 hx1 rfl (by decide) (fun _ => rfl) int_one (B72 + 1) xs2[j].v xs2[j].l [(i : Int)] ay cy (by go_simp) (by simpa using hvy) kWx hry (by simp; unfold maxLen; omega) (by simp; omega) (by omega) (fun v' w' hO hG hV => ?_); exact hK _ _ ⟨(fun h => by have h := (by simpa [upd] using h : LJ 16 = false); exact Cells.grown (kB0 h) hG (Own.far kWx (by omega))), (fun h => by have h := (by simpa [upd] using h : LJ 16 = true); exact absurd (kO0 h) (by rw [hL]; decide)), (by simp [upd]), (low_grown kLow hG (by omega) (fun k hk => by have := (World.ownsRow.lt kWx k hk).1; omega)), (by first | omega | (simp; done) | (simp; omega) | (have := hG.size; omega)), ((RpK.app (hj := hjx) kKeep hpo2.ap hNg hG)), ((fun _ g hg => by have hg' : v'.ownBlock = some g := (by simpa [updS] using hg); have hsz := kKeep.sz; rcases hV with e | e <;> rw [e] at hg'; exact .inl hg'; cases hg'; exact .inr hsz)), (by simpa [upd] using kZ16_11), (by simpa [upd, updS] using hs0), (by simpa [upd, updS] using hs1), (by simpa [upd, updS] using hs2), (by simpa [upd, updS] using hs3), (by simpa [upd, updS] using hs12), (by simpa [upd, updS] using hs16), (by simpa [upd, updS] using hs20), (by simpa [upd, updS] using hs22), (by simpa [upd, updS] using hv0), (by simpa [upd, updS] using hv1), (by simpa [upd, updS] using hv2), (by simpa [upd, updS] using hv3), (by simpa [upd, updS] using hv4), (by simpa [upd, updS] using hv5), (by simpa [upd, updS] using hv6), (by simpa [upd, updS] using hv7), (by simpa [upd, updS] using hv8), (by simpa [upd, updS] using hv9), (by simpa [upd, updS] using hv10), (by simpa [upd, updS] using hv11), (by simpa [upd, updS] using hv12), (by simpa [upd, updS] using hv15), (fun h1 => by simp [upd] at h1), (fun h1 => by have h1 := (by simpa [upd] using h1 : LJ 13 = true); simpa [updS] using Own.grown (kW13 h1) hG (kEP0_W13 hcj h1).symm), (fun _ => by first | exact hO | (simp only [updS_some, ↓reduceIte]; exact hO) | (simpa [updS] using hO)), (fun h1 h2 => by simp [upd] at h1), (fun h1 h2 => by have h1 := (by simpa [upd] using h1 : LJ 13 = true); simpa [updS] using Apart.app (kW13 h1) (kEP0_W13 hcj h1).symm hV)⟩
               · rintro LJ sJ wJ hL hd ⟨kB0, kC0, kO0, kLow, kSz, kKeep, kV9, kZ16_11, hs0, hs1, hs2, hs3, hs12, hs16, hs20, hs22, hv0, hv1, hv2, hv3, hv4, hv5, hv6, hv7, hv8, hv9, hv10, hv11, hv12, hv15, kP0, kW13, kW14, kEP0_W13, kEW13_W14⟩ K hK
                 have ga0 := hd ⟨0, .data⟩ (by simp) rfl; have gv0 := hv0 ga0; have ga4 := hd ⟨4, .data⟩ (by simp) rfl; have gv4 := hv4 ga4; have ga0 := hd ⟨0, .phase⟩ (by simp) rfl; have gv0 := hv0 ga0; have ga1 := hd ⟨1, .phase⟩ (by simp) rfl; have gv1 := hv1 ga1; have ga2 := hd ⟨2, .phase⟩ (by simp) rfl; have gv2 := hv2 ga2; have ga3 := hd ⟨3, .phase⟩ (by simp) rfl; have gv3 := hv3 ga3; have ga4 := hd ⟨4, .phase⟩ (by simp) rfl; have gv4 := hv4 ga4; have ga5 := hd ⟨5, .phase⟩ (by simp) rfl; have gv5 := hv5 ga5; have ga6 := hd ⟨6, .phase⟩ (by simp) rfl; have gv6 := hv6 ga6; have ga7 := hd ⟨7, .phase⟩ (by simp) rfl; have gv7 := hv7 ga7; have ga8 := hd ⟨8, .phase⟩ (by simp) rfl; have gv8 := hv8 ga8; have ga9 := hd ⟨9, .phase⟩ (by simp) rfl; have gv9 := hv9 ga9; have ga10 := hd ⟨10, .phase⟩ (by simp) rfl; have gv10 := hv10 ga10; have ga11 := hd ⟨11, .phase⟩ (by simp) rfl; have gv11 := hv11 ga11; have ga12 := hd ⟨12, .phase⟩ (by simp) rfl; have gv12 := hv12 ga12; have ga13 := hd ⟨13, .phase⟩ (by simp) rfl
                 have ga14 := hd ⟨14, .phase⟩ (by simp) rfl; clear hd; rw [if_pos (by rfl)]; unfold opF; go_simp
                 refine hK _ _ ⟨?_, ?_, ?_, ?_, ?_, ?_, ?_, ?_, ?_, ?_, ?_, ?_, ?_, ?_, ?_, ?_, ?_, ?_, ?_, ?_, ?_, ?_, ?_, ?_, ?_, ?_, ?_, ?_, ?_, ?_, ?_, ?_, ?_, ?_, ?_⟩ <;> first | assumption | (simp [upd, updS]; done) | (simp [upd, updS]; assumption)
               · rintro LJ sJ wJ hL hd ⟨kB0, kC0, kO0, kLow, kSz, kKeep, kV9, kZ16_11, hs0, hs1, hs2, hs3, hs12, hs16, hs20, hs22, hv0, hv1, hv2, hv3, hv4, hv5, hv6, hv7, hv8, hv9, hv10, hv11, hv12, hv15, kP0, kW13, kW14, kEP0_W13, kEW13_W14⟩ K hK
                 have ga15 := hd ⟨15, .data⟩ (by simp) rfl; have gv15 := hv15 ga15; have ga14 := hd ⟨14, .data⟩ (by simp) rfl; have ga14 := hd ⟨14, .chain⟩ (by simp) rfl; have ga0 := hd ⟨0, .phase⟩ (by simp) rfl; have gv0 := hv0 ga0; have ga1 := hd ⟨1, .phase⟩ (by simp) rfl; have gv1 := hv1 ga1; have ga2 := hd ⟨2, .phase⟩ (by simp) rfl; have gv2 := hv2 ga2; have ga3 := hd ⟨3, .phase⟩ (by simp) rfl; have gv3 := hv3 ga3; have ga4 := hd ⟨4, .phase⟩ (by simp) rfl; have gv4 := hv4 ga4; have ga5 := hd ⟨5, .phase⟩ (by simp) rfl; have gv5 := hv5 ga5; have ga6 := hd ⟨6, .phase⟩ (by simp) rfl; have gv6 := hv6 ga6; have ga7 := hd ⟨7, .phase⟩ (by simp) rfl; have gv7 := hv7 ga7; have ga8 := hd ⟨8, .phase⟩ (by simp) rfl; have gv8 := hv8 ga8; have ga9 := hd ⟨9, .phase⟩ (by simp) rfl; have gv9 := hv9 ga9; have ga10 := hd ⟨10, .phase⟩ (by simp) rfl; have gv10 := hv10 ga10; have ga11 := hd ⟨11, .phase⟩ (by simp) rfl; have gv11 := hv11 ga11; have ga12 := hd ⟨12, .phase⟩ (by simp) rfl
                 have gv12 := hv12 ga12; have ga13 := hd ⟨13, .phase⟩ (by simp) rfl; have ga14 := hd ⟨14, .phase⟩ (by simp) rfl; clear hd; rw [if_pos (by rfl)]; have kWs := kW14 (by first | assumption | exact ga14); obtain ⟨ay, cy, hvy, _, _⟩ := Own.slice (f := int1) (m := 1) (fun _ => rfl) kWs; have kN0 := kB0 hL; have ccs := kN0.1; have ccz := kN0.2.2; have cj := sls_cell kN0 hjx; have Hvy := hid hvy; unfold opF; go_simp; exact hK undef _ ⟨(by simp [upd]), (fun _ => by show Cells _ B72 (((xs2.flatMap Sl.cs)).set j (sJ 154)); rw [Hvy.out]; have hz := kN0.set (i := j) (u := Value.slice ay ((xs2[j].l ++ [(i : Int)])).length cy); first | exact hz | simpa using hz), (by simp [upd]; exact ga14), (kLow.setCell (by first | omega | (simp; omega)) _), (by first | omega | (simp; done) | (simp; omega) | (have := hG.size; omega)), ((RpK.st kKeep (by omega) _ _)), ((fun h => by simpa [upd, updS] using kV9 (by simpa [upd] using h))), (by simp [upd]; exact ga11), (by simpa [upd, updS] using hs0), (by simpa [upd, updS] using hs1), (by simpa [upd, updS] using hs2), (by simpa [upd, updS] using hs3), (by simpa [upd, updS] using hs12), (by simpa [upd, updS] using hs16), (by simpa [upd, updS] using hs20), (by simpa [upd, updS] using hs22), (by simpa [upd, updS] using hv0), (by simpa [upd, updS] using hv1), (by simpa [upd, updS] using hv2), (by simpa [upd, updS] using hv3), (by simpa [upd, updS] using hv4), (by simpa [upd, updS] using hv5), (by simpa [upd, updS] using hv6), (by simpa [upd, updS] using hv7), (by simpa [upd, updS] using hv8), (by simpa [upd, updS] using hv9), (by simpa [upd, updS] using hv10), (by simpa [upd, updS] using hv11), (by simpa [upd, updS] using hv12), (by simpa [upd, updS] using hv15), (fun h1 => by have h1 := (by simpa [upd] using h1 : LJ 14 = false); simpa [updS] using Own.setFar' (kP0 h1) (by omega) _), (fun h1 => by have h1 := (by simpa [upd] using h1 : LJ 13 = true); simpa [updS] using Own.setFar' (kW13 h1) (by omega) _), (fun h1 => by have h1 := (by simpa [upd] using h1 : LJ 14 = true); simpa [updS] using Own.setFar' (kW14 h1) (by omega) _), (fun h1 h2 => by have h1 := (by simpa [upd] using h1 : LJ 14 = false); have h2 := (by simpa [upd] using h2 : LJ 13 = true); simpa [updS] using kEP0_W13 h1 h2), (fun h1 h2 => by have h1 := (by simpa [upd] using h1 : LJ 13 = true); have h2 := (by simpa [upd] using h2 : LJ 14 = true); simpa [updS] using kEW13_W14 h1 h2)⟩
             rintro sM35 w78 ⟨⟨xs9, k72z, hpo9, h9l, h9o, h9b⟩, hp9, e0, e1, e2, e3, e12, e16, e20, e22, hbM⟩; clear sl0 sl1 sl2 sl3 sl12 sl16 sl20 sl22 sl137; clear kB72 hpo2 hp20 hkeep; have sl0 := e0; clear e0; have sl1 := e1; clear e1; have sl2 := e2; clear e2; have sl3 := e3; clear e3; have sl12 := e12; clear e12; have sl16 := e16; clear e16; have sl20 := e20; clear e20; have sl22 := e22; clear e22; have HB := hid (OldB.nil (Bs := []) hbM); clear hbM hlw
             repeat ((fail_if_success refine stp ?_); with_reducible go_step)
             refine region_F ?_
             iterate 3 refine pl ?_
             refine listF_abs (fun s80 z' => ?_); replace sl0 := gs 0 z' sl0; replace sl1 := gs 1 z' sl1; replace sl2 := gs 2 z' sl2; replace sl3 := gs 3 z' sl3; replace sl12 := gs 12 z' sl12; replace sl16 := gs 16 z' sl16; replace sl20 := gs 20 z' sl20; replace sl22 := gu 22 z'; clear z'; refine listF_nil ?_
             repeat ((fail_if_success refine stp ?_); with_reducible go_step)
             refine ⟨_, _, rfl, ?_, n + 1, xs9, rfl, (by first | (with_reducible exact sl22) | (rw [sl22]; (with_reducible go_num); done) | (rw [sl22, IntWalk.i64_in] <;> first | ((with_reducible go_num); done) | omega) | (rw [sl22]; go_num; done) | (rw [sl22]; simp; done) | (rw [sl22]; simp; omega)), (sl0.trans hc4_0.out.symm), (sl1.trans hc4_1.out.symm), (sl2.trans hc4_2.out.symm), (sl3.trans hc4_3.out.symm), (sl12.trans hc4_12.out.symm), (sl16.trans hc4_16.out.symm), (sl20.trans hc4_20.out.symm), HB.out, by omega, k72z, hp9, hpo9, hid h9l, hid h9o, hid h9b⟩
             omega
            ·skip
             have hnP : n = P.length := by have h := h137; simp at h; omega
             subst hnP
             repeat ((fail_if_success refine stp ?_); with_reducible go_step)
             clear hc4_0 hc4_1 hc4_2 hc4_3 hc4_12 hc4_16 hc4_20; refine region_F ?_
             iterate 3 refine pl ?_
             refine listF_abs (fun s81 z' => ?_); replace sl0 := gs 0 z' sl0; replace sl1 := gs 1 z' sl1; replace sl2 := gs 2 z' sl2; replace sl3 := gs 3 z' sl3; replace sl12 := gs 12 z' sl12; replace sl16 := gu 16 z'; clear z' sl20 sl22 sl137; refine listF_nil ?_
             repeat ((fail_if_success refine stp ?_); with_reducible go_step)
             refine ⟨_, _, rfl, ?_, i + 1, xs2, (addPlan o i P), rfl, (by first | (with_reducible exact sl16) | (rw [sl16]; (with_reducible go_num); done) | (rw [sl16, IntWalk.i64_in] <;> first | ((with_reducible go_num); done) | omega) | (rw [sl16]; go_num; done) | (rw [sl16]; simp; done) | (rw [sl16]; simp; omega)), (sl0.trans hc3_0.out.symm), (sl1.trans hc3_1.out.symm), (sl2.trans hc3_2.out.symm), (sl3.trans hc3_3.out.symm), (sl12.trans hc3_12.out.symm), HB.out, by omega, kB72, (PlanO.noav hpo2), hid hx2l.out, hid (by rw [hx2o.out, List.take_length]), hid (fun q h => by have h1 := hx2b.out q h; have h2 := Hpln.out; omega), hid (by rw [hgo.out, repGo_step hi Hp.out])⟩
             omega
          case dep40 =>
            iterate 11 refine dR ?_
            refine depR_cons (fun X X' h => ?_) ?_
            · (first | exact ⟨rfl, rfl⟩ | (have e11 := h 11 (by decide +kernel); constructor <;> (first | rfl | (simp only [e11]))))
            refine depR_cons (fun X X' h => ?_) ?_
            · (first | exact ⟨rfl, rfl⟩ | (have e11 := h 11 (by decide +kernel); constructor <;> (first | rfl | (simp only [e11]))))
            exact depR_nil
         ·skip
          have hge : i = rack.length := by have h := h100; simp at h; omega
          subst hge; have Hgo := hid (show repOut rack l f u = some o by rw [hgo.out, List.drop_length]; rfl)
          repeat ((fail_if_success refine stp ?_); with_reducible go_step)
          clear hc3_0 hc3_1 hc3_2 hc3_3 hc3_12; refine region_F ?_
          iterate 3 refine pl ?_
          refine listF_abs (fun s82 z' => ?_); have sl8 := gu 8 z'; have sl9 := gu 9 z'; clear z' sl0 sl1 sl2 sl3 sl12 sl16 sl100; refine listF_nil ?_
          repeat ((fail_if_success refine stp ?_); with_reducible go_step)
          refine ret_F _ (res_tt Try.results36 ((getD_F (by decide)).trans sl8) ((getD_F (by decide)).trans sl9)) ?_; have Hrr := hid (show repRes rack l f u = (o, 0) by unfold repRes; rw [if_neg (by rw [He.out]; decide), Hgo.out]); have hpl := hpo.plan kB72; exact ⟨some ⟨B72, 0, none⟩, xs, l.length, by rw [Hrr.out, hxl.out], hpl, by rw [Hrr.out]; exact hxo.out, HB.out.toBelow, fun b hb => by cases hb; exact g72⟩

end Go.Proofs.Ytndcmmghgljinaa
