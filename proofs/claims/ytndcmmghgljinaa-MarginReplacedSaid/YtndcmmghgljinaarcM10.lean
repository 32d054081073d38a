/- Plain laws of valves: nights in which a valve is replaced: the plan is safe, and no safe one replaces fewer. -/
import Derived.Test.YtndcmmghgljinaarcM8
import Derived.Test.YtndcmmghgljinaarcW3
import Derived.Test.YtndcmmghgljinaarcW13
import Derived.Test.YtndcmmghgljinaarcW18
import Derived.Test.YtndcmmghgljinaarcW5
import Derived.Test.YtndcmmghgljinaarcG6
set_option linter.all false
namespace Go.Proofs.Ytndcmmghgljinaa

section
section
open Go.RowKit


open Go.ChangeShapes Go.WideShapes Go.ChangeAt Go.RowKit Go.Deep
section
variable {H : Type} {enc : TypeId × Value → H} {w : World} {spare : Nat → Bool} {n : Nat}
theorem fld_u16 {i : Nat} {xs : List (DataW H × List MemPlace)} {l : List Value} (hf : DataW.trod enc Try.prog w 0 spare true n 64 l = xs[i]?) (hi : i < xs.length) : ∃ k, l = [.int .u16 k] ∧ (0 ≤ k ∧ k ≤ 65535) := by
  rw [List.getElem?_eq_getElem hi] at hf; obtain ⟨k, hk, _, hw⟩ := DataW.trod_int Try.underlying64 hf; exact ⟨k, hk, bounds_u16 hw⟩

end
end

section
open Go.RowKit


abbrev u16c (n : Int) : List Value := [.int .u16 n]
abbrev RdU := Rd u16c 1
def U16 (l : List Int) : Prop := ∀ x ∈ l, 0 ≤ x ∧ x ≤ 65535
theorem RdU.ne {w : World} {a : Option Addr} {l : List Int} (h : RdU w a l) {k : Nat} (hk : k < l.length) :
    ∃ b off, a = some ⟨b, off, none⟩ ∧ b < w.heap.size ∧ w.cell? ⟨b, off + k, none⟩ = some (.int .u16 l[k]) := by
  obtain ⟨b, off, ha, hb, hc⟩ := Rd.ne h hk; exact ⟨b, off, ha, hb, by simpa using hc 0 _ rfl⟩
/-- the n-th number of a list, by turns -/
def wearAt (l : List Int) (n : Nat) : Int := if l.length = 0 then 0 else l.getD (n % l.length) 0
theorem wearAt_bd {l : List Int} (h : U16 l) (n : Nat) : 0 ≤ wearAt l n ∧ wearAt l n ≤ 65535 := by
  unfold wearAt
  split
  · omega
  · have hm : n % l.length < l.length := Nat.mod_lt _ (by omega)
    rw [getD_get hm]; exact h _ (List.getElem_mem hm)
theorem u16_wrap {n : Int} (h : 0 ≤ n ∧ n ≤ 65535) : IntKind.i64.wrap n = n := IntWalk.i64_in _ (by omega)

set_option maxRecDepth 100000 in
set_option maxHeartbeats 1000000 in
theorem wear_any (a : Option Addr) (c : Nat) (l : List Int) (n : Nat) (w : World) (hl : l.length ≤ 9223372036854775807) (hn : n ≤ 100000) (hR : RdU w a l) :
    Calls Try.prog 45 #[.slice a l.length c, .int .i64 (n : Int)] w (fun e w' => e = .returned (.int .u16 (wearAt l n)) ∧ Below w.heap.size w w') := by
 have HR := hid hR; clear hR
 refine enter_F Try.func45 rfl Try.ntmps45 (by simp) ?_
 intro s0 hs; have sl0 : s0 0 = .slice a l.length c := hs 0 (by simp); have sl1 : s0 1 = .int .i64 (n : Int) := hs 1 (by simp); clear hs; have HB := hid (OldB.refl [] w)
 repeat ((fail_if_success refine stp ?_); with_reducible go_step)
 refine region_F ?_; refine pl ?_; refine listF_abs (fun s1 z' => ?_); replace sl0 := gs 0 z' sl0; replace sl1 := gs 1 z' sl1; clear z'; refine listF_nil ?_
 repeat ((fail_if_success refine stp ?_); with_reducible go_step)
 refine region_F ?_
 iterate 3 refine pl ?_
 refine listF_abs (fun s2 z' => ?_); replace sl0 := gs 0 z' sl0; replace sl1 := gs 1 z' sl1; have sl7 := gu 7 z'; clear z'; refine listF_nil ?_
 repeat ((fail_if_success refine stp ?_); with_reducible go_step)
 refine cond_E sl7 (by decide) ?_ ?_ <;> (clear sl7; intro h7 sl7)
 ·skip
  have h0 : l.length = 0 := by simpa using h7
  have He := hid (show wearAt l n = 0 by unfold wearAt; rw [if_pos h0])
  repeat ((fail_if_success refine stp ?_); with_reducible go_step)
  refine region_F ?_; refine pl ?_; refine listF_abs (fun s3 z' => ?_); have sl4 := gu 4 z'; clear z' sl0 sl1 sl7; refine listF_nil ?_
  repeat ((fail_if_success refine stp ?_); with_reducible go_step)
  refine ret_F _ (res_t Try.results45 ((getD_F (by decide)).trans sl4)) ?_; exact ⟨by rw [He.out], HB.out.toBelow⟩
 ·skip
  have h0 : ¬ l.length = 0 := by simpa using h7
  have hm : n % l.length < l.length := Nat.mod_lt _ (by omega); have He := hid (show wearAt l n = l[n % l.length] by unfold wearAt; rw [if_neg h0, getD_get hm]); obtain ⟨b, off, rfl, hb, c0⟩ := RdU.ne (Rd.oldB HR.out HB.out (by simp)) hm
  generalize l[n % l.length] = y at *
  have hz1 : ¬ (l.length : Int) = 0 := by omega
  have hm1 : (n : Int).tmod (l.length : Int) = ((n % l.length : Nat) : Int) := (Int.ofNat_tmod _ _).symm; have hm2 : IntKind.i64.wrap ((n % l.length : Nat) : Int) = ((n % l.length : Nat) : Int) := IntWalk.i64_in _ (by omega)
  have hm3 : ((n % l.length : Nat) : Int) < (l.length : Int) := by omega
  generalize hjj : n % l.length = jj at *
  have Hjj := hid hjj; clear hjj
  repeat ((fail_if_success refine stp ?_); with_reducible go_step)
  refine region_F ?_
  iterate 8 refine pl ?_
  refine listF_abs (fun s4 z' => ?_); have sl4 := gu 4 z'; clear z' sl0 sl1 sl7; refine listF_nil ?_
  repeat ((fail_if_success refine stp ?_); with_reducible go_step)
  refine ret_F _ (res_t Try.results45 ((getD_F (by decide)).trans sl4)) ?_; exact ⟨by rw [He.out], HB.out.toBelow⟩

set_option maxRecDepth 100000 in
set_option maxHeartbeats 1000000 in
theorem worn_any (k : Kd) (a : Option Addr) (c : Nat) (s n : Int) (w : World) (hK : KOk k) (hs : 0 ≤ s ∧ s ≤ 1000000) (hn : 0 ≤ n ∧ n ≤ 65535) :
    Calls Try.prog 44 #[.agg #[.int .i64 k.new, .int .i64 k.wear.lo, .int .i64 k.wear.hi, .slice a k.steps.length c], .int .i64 s, .int .u16 n] w (fun e w' => e = .returned (.int .i64 (max 0 (s - k.wear.lo - n % (k.wear.hi - k.wear.lo + 1)))) ∧ Below w.heap.size w w') := by
 have h0 := hK.w0; have h1 := hK.w1; have h2 := hK.w2; clear hK; have m0 := Int.emod_nonneg n (b := k.wear.hi - k.wear.lo + 1) (by omega); have m1 := Int.emod_lt_of_pos n (b := k.wear.hi - k.wear.lo + 1) (by omega); have hr : n.tmod (k.wear.hi - k.wear.lo + 1) = n % (k.wear.hi - k.wear.lo + 1) := Int.tmod_eq_emod_of_nonneg hn.1
 have hz : ¬ k.wear.hi - k.wear.lo + 1 = 0 := by omega
 have w1 := u16_wrap hn; have w2 : IntKind.i64.wrap (s - k.wear.lo) = s - k.wear.lo := IntWalk.i64_in _ (by omega); have w3 : IntKind.i64.wrap (k.wear.hi - k.wear.lo) = k.wear.hi - k.wear.lo := IntWalk.i64_in _ (by omega); have w4 : IntKind.i64.wrap (k.wear.hi - k.wear.lo + 1) = k.wear.hi - k.wear.lo + 1 := IntWalk.i64_in _ (by omega); obtain ⟨r, hr0⟩ : ∃ r, n % (k.wear.hi - k.wear.lo + 1) = r := ⟨_, rfl⟩; rw [hr0] at hr m0 m1 ⊢; clear hr0; have w5 : IntKind.i64.wrap r = r := IntWalk.i64_in _ (by omega); have w6 : IntKind.i64.wrap (s - k.wear.lo - r) = s - k.wear.lo - r := IntWalk.i64_in _ (by omega); clear m0 m1 hs hn h0 h1 h2
 refine enter_F Try.func44 rfl Try.ntmps44 (by simp) ?_
 intro s0 hs; have sl0 : s0 0 = .agg #[.int .i64 k.new, .int .i64 k.wear.lo, .int .i64 k.wear.hi, .slice a k.steps.length c] := hs 0 (by simp); have sl1 : s0 1 = .int .i64 s := hs 1 (by simp); have sl2 : s0 2 = .int .u16 n := hs 2 (by simp); clear hs; have HB := hid (OldB.refl [] w)
 repeat ((fail_if_success refine stp ?_); with_reducible go_step)
 refine region_F ?_; refine pa (fun w1 B3 hB kb3' hb2 => ?_); have gb3 := HB.out.gB hB; have eb3 := eB hB; clear hB; replace HB := hid (HB.out.below hb2); clear hb2; have kb3 := kb3'; clear kb3'; have qb3 := kb3.1; refine pl ?_; refine listF_abs (fun s3 z' => ?_); replace sl1 := gs 1 z' sl1; replace sl2 := gs 2 z' sl2; have sl3 := gu 3 z'; clear z' sl0; refine listF_nil ?_
 repeat ((fail_if_success refine stp ?_); with_reducible go_step)
 have cb3_0 := kb3.cell 0 rfl; have cb3_1 := kb3.cell 1 rfl; have cb3_2 := kb3.cell 2 rfl; have cb3_3 := kb3.cell 3 rfl; refine regionQ_F (Below w1.heap.size w1) (by kernel_rfl) (by kernel_rfl) (Below.refl _ _).drew ?_
 iterate 19 refine lq ?_
 refine listQ_nil ?_; intro w4 hb5; clear cb3_0 cb3_1 cb3_2 cb3_3; clear qb3; replace kb3 := kb3.at hb5; replace HB := hid (HB.out.below hb5); clear hb5; have qb3 := kb3.1
 repeat ((fail_if_success refine stp ?_); with_reducible go_step)
 refine ret_abs (fun s6 z' => ?_); have sl6 := gu 6 z'; clear z' sl1 sl2 sl3; refine ret_F _ (res_t Try.results44 ((getD_F (by decide)).trans sl6)) ?_; refine ⟨?_, HB.out.toBelow⟩
 simp only [ite_max]
end

section
open Go.RowKit


open Go.ChangeShapes Go.WideShapes Go.ChangeAt Go.RowKit Go.Deep
abbrev boolc (b : Bool) : List Value := [.bool b]
abbrev RdB := Rd boolc 1
section
variable {H : Type} {enc : TypeId × Value → H} {w : World} {spare : Nat → Bool} {n : Nat}
theorem sl_u16 {fuel : Nat} {cs : List Value} {x : DataW H × List MemPlace} (h : DataW.trod enc Try.prog w 0 spare true fuel 63 cs = some x) (hlt : ∀ p ∈ x.2, p.block < w.heap.size) : ∃ a c, ∃ l : List Int, cs = [.slice a l.length c] ∧ RdU w a l ∧ l.length ≤ 9223372036854775807 ∧ U16 l := by
  obtain ⟨a, c, l, h1, h2, h3, h4⟩ := open_rows (f := u16c) (m := 1) (ok := fun x : Int => 0 ≤ x ∧ x ≤ 65535) Try.underlying63 (by kernel_rfl) (fun n cs' z _ hz => by obtain ⟨k, hk, _, hw⟩ := DataW.trod_int Try.underlying64 hz; exact ⟨k, hk, bounds_u16 hw⟩) (by decide) h hlt; unfold maxLen at h3; exact ⟨a, c, l, h1, h2, by omega, h4⟩
theorem sl_bool {fuel : Nat} {cs : List Value} {x : DataW H × List MemPlace} (h : DataW.trod enc Try.prog w 0 spare true fuel 88 cs = some x) (hlt : ∀ p ∈ x.2, p.block < w.heap.size) : ∃ a c, ∃ l : List Bool, cs = [.slice a l.length c] ∧ RdB w a l ∧ l.length ≤ 9223372036854775807 := by
  obtain ⟨a, c, l, h1, h2, h3, h4⟩ := open_rows (f := boolc) (m := 1) (ok := fun _ : Bool => True) Try.underlying88 (by kernel_rfl) (fun n cs' z _ hz => by obtain ⟨k, hk, _⟩ := DataW.trod_bool Try.underlying4 hz; exact ⟨k, hk, trivial⟩) (by decide) h hlt; unfold maxLen at h3; exact ⟨a, c, l, h1, h2, by omega⟩
set_option maxRecDepth 100000 in
theorem open_kept {base : Nat} {v : Value} {d : DataW H} {p : List MemPlace} (hv : Value.okWide Try.prog w .any base 90 v) (h : DataW.Trod enc Try.prog w 0 spare true 90 v d p) (hlt : ∀ x ∈ p, x.block < w.heap.size) :
    ∃ (f u : Int) (lw : List Int) (aw : Option Addr) (cw : Nat) (lo : List Bool) (ao : Option Addr) (co : Nat), v = .agg #[.int .u16 f, .int .u16 u, .slice aw lw.length cw, .slice ao lo.length co] ∧
      (0 ≤ f ∧ f ≤ 65535) ∧ (0 ≤ u ∧ u ≤ 65535) ∧ (RdU w aw lw ∧ lw.length ≤ 9223372036854775807 ∧ U16 lw) ∧ (RdB w ao lo ∧ lo.length ≤ 9223372036854775807) := by
  obtain ⟨cs0, rfl, hsz⟩ := okWide_struct Try.underlying90 hv; obtain ⟨fuel, hf0⟩ := h; have e : Value.cells (.agg cs0) = cs0 := rfl; rw [e] at hf0; obtain ⟨xs, n', _, hxe, hlen, hx, hf⟩ := DataW.trod_struct Try.underlying90 hf0; have hl : cs0.toList.length = 4 := hlen.trans (by kernel_rfl); have hxl : xs.length = 4 := hx.trans (by rfl)
  have ec : Try.prog.cellsOf 64 = 1 := by kernel_rfl
  have es : Try.prog.cellsOf 63 = 1 := by kernel_rfl
  have eb : Try.prog.cellsOf 88 = 1 := by kernel_rfl
  obtain ⟨cs0⟩ := cs0
  match cs0, hl, xs, hxl with
  | [c0, c1, c2, c3], _, [x0, x1, x2, x3], _ =>
    have hp := (Prod.mk.inj hxe).2; obtain ⟨f, hf0, bf⟩ := fld_u16 (hf 0 _ rfl) (by simp); obtain ⟨u, hu0, bu⟩ := fld_u16 (hf 1 _ rfl) (by simp); have h2 := hf 2 _ rfl; have h3 := hf 3 _ rfl
    simp [ec, es, eb] at hf0 hu0 h2 h3
    obtain ⟨a2, k2, l2, g2, r2⟩ := sl_u16 h2 (fun q hq => hlt q (by rw [hp]; simp [hq])); obtain ⟨a3, k3, l3, g3, r3⟩ := sl_bool h3 (fun q hq => hlt q (by rw [hp]; simp [hq]))
    simp at g2 g3
    subst hf0 hu0 g2 g3; exact ⟨f, u, l2, a2, k2, l3, a3, k3, rfl, bf, bu, r2, r3⟩
end
end

section
open Go.RowKit


open Go.ChangeShapes Go.WideShapes Go.ChangeAt Go.RowKit Go.Deep
section
variable {H : Type} {enc : TypeId × Value → H} {w : World} {spare : Nat → Bool} {n : Nat}
end
end

section
open Go.RowKit


theorem RdCks.at0 {w : World} {b off : Nat} {l : List MCk} {y : MCk} (h : RdCks w (some ⟨b, off, none⟩) l) (hl : 0 < l.length) (hy : l[0] = y) :
    b < w.heap.size ∧ w.cell? ⟨b, off, none⟩ = some (.int .i64 y.hour) ∧ w.cell? ⟨b, off + 1, none⟩ = some (.int .i64 y.volt) ∧ w.cell? ⟨b, off + 2, none⟩ = some (.bool y.passed) := by
  subst hy; obtain ⟨hb, hc⟩ := Rd.get h hl; refine ⟨hb, ?_, ?_, ?_⟩
  · have := hc 0 _ rfl; simpa using this
  · have := hc 1 _ rfl; simpa using this
  · have := hc 2 _ rfl; simpa using this
/-- the n-th of l things, by turns -/
theorem turn_nat {x : Int} {l : Nat} (hx : 0 ≤ x) (hb : x ≤ 4294967295) (hl : 0 < l) : ∃ n : Nat, x.tmod (l : Int) = (n : Int) ∧ n < l ∧ IntKind.i64.wrap (n : Int) = (n : Int) := by
  obtain ⟨y, rfl⟩ := Int.eq_ofNat_of_zero_le hx; have hm : y % l < l := Nat.mod_lt _ hl; have hm2 : y % l ≤ y := Nat.mod_le _ _; exact ⟨y % l, (Int.ofNat_tmod _ _).symm, hm, IntWalk.i64_in _ (by omega)⟩
end

section
open Go.RowKit


/-- strengths of a new valve hour by hour, with a list of wear by turns -/
def strS (k : Kd) (lw : List Int) : Nat → Int := wornS k (fun t => wearAt lw (t + 1)) k.new
def LL (k : Kd) (lw : List Int) (n : Nat) : List Int := (List.range n).map (strS k lw)
theorem LL_len {k : Kd} {lw : List Int} {n : Nat} : (LL k lw n).length = n := by simp [LL]
theorem LL_succ {k : Kd} {lw : List Int} {n : Nat} : LL k lw (n + 1) = LL k lw n ++ [strS k lw n] := by simp [LL, List.range_succ]
theorem LL_one {k : Kd} {lw : List Int} : LL k lw 1 = [k.new] := rfl
theorem LL_get {k : Kd} {lw : List Int} {n i : Nat} (hi : i < n) : (LL k lw n)[i]? = some (strS k lw i) := by
  unfold LL; rw [List.getElem?_map, List.getElem?_range hi]; rfl
theorem str_bd {k : Kd} (hK : KOk k) (lw : List Int) (t : Nat) : 0 ≤ strS k lw t ∧ strS k lw t ≤ 1000000 := wornS_bd hK (by have := hK.n0; omega) hK.n1 t
theorem own_ne {α : Type} {f : α → List Value} {m : Nat} {T : TypeId} {base : Nat} {w : World} {v : Value} {l : List α} (h : Own f m T base w v l) (hl : l ≠ []) : ∃ g c, v = .slice (some ⟨g, 0, none⟩) l.length c := by
  rcases h.form with ⟨_, h2⟩ | ⟨g, c, h2, _⟩
  · exact absurd h2 hl
  · exact ⟨g, c, h2⟩
theorem wear_succ (a : Option Addr) (c : Nat) (l : List Int) (n : Nat) (w : World) (hl : l.length ≤ 9223372036854775807) (hn : n + 1 ≤ 100000) (hR : RdU w a l) :
    Calls Try.prog 45 #[.slice a l.length c, .int .i64 ((n : Int) + 1)] w (fun e w' => e = .returned (.int .u16 (wearAt l (n + 1))) ∧ Below w.heap.size w w') := wear_any a c l (n + 1) w hl hn hR
theorem worn_step (k : Kd) (a : Option Addr) (c : Nat) (lw : List Int) (m : Nat) (w : World) (hK : KOk k) (hU : U16 lw) :
    Calls Try.prog 44 #[.agg #[.int .i64 k.new, .int .i64 k.wear.lo, .int .i64 k.wear.hi, .slice a k.steps.length c], .int .i64 (strS k lw m), .int .u16 (wearAt lw (m + 1))] w (fun e w' => e = .returned (.int .i64 (strS k lw (m + 1))) ∧ Below w.heap.size w w') := worn_any k a c _ _ w hK (str_bd hK lw m) (wearAt_bd hU _)
def LivedOwn (k : Kd) (lw : List Int) (u : Nat) (w : World) (e : Ending) (w' : World) : Prop := ∃ b c, e = .returned (.slice (some ⟨b, 0, none⟩) (u + 1) c) ∧ Own int1 1 3 w.heap.size w' (Value.slice (some ⟨b, 0, none⟩) (u + 1) c) (LL k lw (u + 1)) ∧ Below w.heap.size w w'
theorem own_int {T : TypeId} {base g n c i : Nat} {w : World} {l : List Int} {x : Int} (h : Own int1 1 T base w (.slice (some ⟨g, 0, none⟩) n c) l) (hi : l[i]? = some x) : w.cell? ⟨g, i, none⟩ = some (.int .i64 x) := by
  have := Own.cells0 (f := int1) (m := 1) (fun _ => rfl) h i x hi 0 (.int .i64 x) rfl; rw [Nat.mul_one, Nat.add_zero] at this; exact this

set_option maxRecDepth 100000 in
set_option maxHeartbeats 8000000 in
theorem lived_own (k : Kd) (a : Option Addr) (c : Nat) (ah av : Option Addr) (nh ch nv cv : Nat) (x : Int) (aw : Option Addr) (cw : Nat) (lw : List Int) (u : Nat) (w : World) (hK : KOk k) (hRw : RdU w aw lw) (hlw : lw.length ≤ 9223372036854775807) (hU : U16 lw) (hu : u ≤ 99998) :
    Calls Try.prog 41 #[.agg #[.int .i64 k.new, .int .i64 k.wear.lo, .int .i64 k.wear.hi, .slice a k.steps.length c], .agg #[.slice ah nh ch, .slice av nv cv, .int .u16 x, .slice aw lw.length cw], .int .i64 (u : Int)] w (LivedOwn k lw u w) := by
 have HK := hid hK; have HRw := hid hRw; have HU := hid hU; clear hK hRw hU; obtain ⟨i1, hi1, hz1, hy1, hx1⟩ := info_parts info_int
 refine enter_F Try.func41 rfl Try.ntmps41 (by simp) ?_
 intro s0 hs; have sl0 : s0 0 = .agg #[.int .i64 k.new, .int .i64 k.wear.lo, .int .i64 k.wear.hi, .slice a k.steps.length c] := hs 0 (by simp); have sl1 : s0 1 = .agg #[.slice ah nh ch, .slice av nv cv, .int .u16 x, .slice aw lw.length cw] := hs 1 (by simp); have sl2 : s0 2 = .int .i64 (u : Int) := hs 2 (by simp); clear hs; have HB := hid (OldB.refl [] w)
 repeat ((fail_if_success refine stp ?_); with_reducible go_step)
 refine region_F ?_; refine pa (fun w1 B3 hB kb3' hb2 => ?_); have gb3 := HB.out.gB hB; have eb3 := eB hB; clear hB; replace HB := hid (HB.out.below hb2); clear hb2; have kb3 := kb3'; clear kb3'; have qb3 := kb3.1; refine pa (fun w3 B4 hB kb4' hb4 => ?_); have gb4 := HB.out.gB hB; have ob3_b4 := oB qb3 hB; have eb4 := eB hB; clear hB; clear qb3; replace kb3 := kb3.at hb4; replace HB := hid (HB.out.below hb4); clear hb4; have qb3 := kb3.1; have kb4 := kb4'; clear kb4'; have qb4 := kb4.1; refine pl ?_; refine listF_abs (fun s5 z' => ?_); replace sl2 := gs 2 z' sl2; have sl3 := gu 3 z'; have sl4 := gu 4 z'; clear z' sl0 sl1; refine listF_nil ?_
 repeat ((fail_if_success refine stp ?_); with_reducible go_step)
 refine region_F ?_; refine pl ?_; have cb3_0 := kb3.cell 0 rfl; have cb3_1 := kb3.cell 1 rfl; have cb3_2 := kb3.cell 2 rfl; have cb3_3 := kb3.cell 3 rfl; refine pl ?_; obtain ⟨NB, hNB⟩ : ∃ n, n = w3.heap.size := ⟨_, rfl⟩; have gNB := HB.out.gB hNB; have b3NB := oB qb3 hNB; have b4NB := oB qb4 hNB
 have hNB' : NB ≤ w3.heap.size := by omega
 clear hNB; obtain ⟨B11, hB11⟩ : ∃ b, b = w3.heap.size := ⟨_, rfl⟩; refine listF_step rfl (fun K' hK => ?_); unfold opF; go_simp; refine hK _ _ ?_; clear hK K'; refine listF_absw ?_; intro w6 hw'; have hzz := HB.out.size
 have hO7 : Own int1 1 3 NB w6 (Value.slice (some ⟨w3.heap.size, 0, none⟩) 1 1) (LL k lw 1) := by rw [hw', LL_one]; exact Own.lit (by omega) (by unfold maxLen; simp) rfl (fun _ => rfl)
 have hb7 : Below w3.heap.size w3 w6 := by rw [hw']; exact below_alloc1 _ _
 clear hw' hzz hNB'; rw [← hB11] at hO7
 (try rw [← hB11])
 clear hB11; clear cb3_0 cb3_1 cb3_2 cb3_3; clear qb3 qb4; replace kb3 := kb3.at hb7; replace kb4 := kb4.at hb7; replace HB := hid (HB.out.below hb7); clear hb7; have qb3 := kb3.1; have qb4 := kb4.1; refine pl ?_; refine listF_abs (fun s8 z' => ?_); replace sl2 := gs 2 z' sl2; replace sl3 := gs 3 z' sl3; replace sl4 := gs 4 z' sl4; have sl7 := gu 7 z'; clear z'; refine listF_nil ?_
 repeat ((fail_if_success refine stp ?_); with_reducible go_step)
 refine region_F ?_; refine pl ?_; refine listF_abs (fun s9 z' => ?_); replace sl2 := gs 2 z' sl2; replace sl3 := gs 3 z' sl3; replace sl4 := gs 4 z' sl4; replace sl7 := gs 7 z' sl7; have sl8 := gu 8 z'; clear z'; refine listF_nil ?_
 repeat ((fail_if_success refine stp ?_); with_reducible go_step)
 clear qb3 qb4; have hc0_2 := hid sl2; have hc0_3 := hid sl3; have hc0_4 := hid sl4; refine loop_F (n := 32) (fun kJ sJ wJ => ∃ (m : Nat) (b7 : Nat) (c7 : Nat), kJ = u - m + 1 ∧ sJ 7 = .slice (some ⟨b7, 0, none⟩) (m + 1) c7 ∧ sJ 8 = .int .i64 ((m : Int) + 1) ∧ sJ 2 = s9 2 ∧ sJ 3 = s9 3 ∧ sJ 4 = s9 4 ∧ OldB [] w wJ ∧ m ≤ u ∧ Cells wJ B3 [.int .i64 k.new, .int .i64 k.wear.lo, .int .i64 k.wear.hi, .slice a k.steps.length c] ∧ Cells wJ B4 [.slice ah nh ch, .slice av nv cv, .int .u16 x, .slice aw lw.length cw] ∧ Own int1 1 3 NB wJ (Value.slice (some ⟨b7, 0, none⟩) (m + 1) c7) (LL k lw (m + 1))) ⟨0, B11, 1, rfl, (by first | exact sl7 | (rw [sl7]; go_num) | (rw [sl7]; rfl)), (by first | exact sl8 | (rw [sl8]; go_num) | (rw [sl8]; rfl)), rfl, rfl, rfl, HB.out, Nat.zero_le _, kb3, kb4, hO7⟩ ?_; clear sl7 sl8 kb3 kb4 HB; rintro kJ s10 w11 ⟨m, b7, c7, rfl, sl7, sl8, e2, e3, e4, HB', hmu0, k3x, k4x, hO7⟩; replace sl2 := e2.trans sl2; clear e2
 replace sl3 := e3.trans sl3; clear e3; replace sl4 := e4.trans sl4; clear e4; have HB := hid HB'; clear HB'; have kb3 := k3x; clear k3x; have qb3 := kb3.1; have kb4 := k4x; clear k4x; have qb4 := kb4.1
 repeat ((fail_if_success refine stp ?_); with_reducible go_step)
 refine region_F ?_
 iterate 3 refine pl ?_
 refine listF_abs (fun s12 z' => ?_); replace sl2 := gs 2 z' sl2; replace sl3 := gs 3 z' sl3; replace sl4 := gs 4 z' sl4; replace sl7 := gs 7 z' sl7; replace sl8 := gs 8 z' sl8; have sl14 := gu 14 z'; clear z'; refine listF_nil ?_
 repeat ((fail_if_success refine stp ?_); with_reducible go_step)
 refine cond_E sl14 (by decide) ?_ ?_ <;> (clear sl14; intro h14 sl14)
 ·skip
  have hmu : m < u := by have h := h14; simp at h; omega
  repeat ((fail_if_success refine stp ?_); with_reducible go_step)
  have d0 := own_int hO7 (LL_get (k := k) (lw := lw) (i := m) (by omega)); have hb7 := (World.ownsRow.lt hO7 b7 rfl).2; have wm : IntKind.i64.wrap (m : Int) = (m : Int) := IntWalk.i64_in _ (by omega)
  have lm : (m : Int) < (m : Int) + 1 := by omega
  have cb3_0 := kb3.cell 0 rfl; have cb3_1 := kb3.cell 1 rfl; have cb3_2 := kb3.cell 2 rfl; have cb3_3 := kb3.cell 3 rfl; have cb4_0 := kb4.cell 0 rfl; have cb4_1 := kb4.cell 1 rfl; have cb4_2 := kb4.cell 2 rfl; have cb4_3 := kb4.cell 3 rfl; refine regionR_F [] [] [12] [.q [], .q [], .q [], .q [], .q [], .q [], .q [], .q [], .q [], .q [], .q [], .q [], .a] [?v21_0, ?v21_1, ?v21_2, ?v21_3, ?v21_4, ?v21_5, ?v21_6, ?v21_7, ?v21_8, ?v21_9, ?v21_10, ?v21_11, ?v21_12] [fun _ => [], fun _ => [], fun _ => [], fun _ => [], fun _ => [], fun _ => [], fun _ => [], fun _ => [], fun _ => [], fun _ => [], fun _ => [], fun _ => [], ?c21_12] (by kernel_rfl) (by kernel_rfl) (by kernel_rfl) (by kernel_rfl) (by kernel_rfl) (by first | exact List.nodup_nil | exact List.nodup_singleton _ | (simp; done) | (simp; omega)) bc_nil ?walk21 ?dep21
  case walk21 =>
   iterate 10 refine rq ?_
   refine walkR_q (by rfl) (fun X hX wq hwq hrq => ?_) ?_
   · obtain ⟨hcq, hfq⟩ := hwq.b0
     clear hrq; go_simp
     (with_reducible exact (wear_succ aw cw lw m _ hlw (by omega) (Rd.oldB HRw.out (HB.out.more hwq.unDrew (by simp; try omega)) (by simp))))
   refine walkR_q (by rfl) (fun X hX wq hwq hrq => ?_) ?_
   · obtain ⟨hcq, hfq⟩ := hwq.b0
     clear hrq; go_simp
     (with_reducible exact (worn_step k a c lw m _ HK.out HU.out))
   refine walkR_a (by rfl) (fun X hX wq hwq hsq => ?_) ?_
   · go_simp
     refine newB_mk ?_ ?_
     · rfl
     · rfl
   refine walkR_nil (fun X hX w13 hwz hcz => ?_); have ka12 := hcz 12 (by simp)
   simp only [updC_some, updC_none, Nat.reduceEqDiff, ↓reduceIte] at ka12
   have la12 := hX.lo 12 rfl; clear hX hcz
   generalize X 12 = J12 at *
   (try clear X)
   skip; have hb14 := hwz.unDrew; clear hwz; have gJ := HB.out.size; replace la12 : w11.heap.size ≤ J12 := la12
   have ob3_J12 : B3 < J12 := by have := qb3; omega
   have ob4_J12 : B4 < J12 := by have := qb4; omega
   have nhO7_b29 : ∀ g, (Value.slice (some ⟨b7, 0, none⟩) (m + 1) c7).ownBlock = some g → g < J12 := fun g hg => by have := (World.ownsRow.lt hO7 g hg).2; omega
   clear cb3_0 cb3_1 cb3_2 cb3_3 cb4_0 cb4_1 cb4_2 cb4_3; clear qb3 qb4; replace kb3 := kb3.oldB hb14 (by first | (simp; done) | (simp; omega)); replace kb4 := kb4.oldB hb14 (by first | (simp; done) | (simp; omega)); replace hO7 := Own.oldB hO7 hb14 (fun g hg => by have n0 := (World.ownsRow.lt hO7 g hg).1; have nb29 := nhO7_b29 g hg; first | (simp; done) | (simp; omega)); replace HB := hid (HB.out.more hb14 (by simp; try omega)); clear hb14; have qb3 := kb3.1; have qb4 := kb4.1
   have gb29 : w.heap.size ≤ J12 := by omega
   have kb29 := ka12; clear ka12; have qb29 := kb29.1; have hlz := World.ownsRow.lt hO7 b7 rfl
   have ab3 : (Value.slice (some ⟨b7, 0, none⟩) (m + 1) c7).ownBlock ≠ some B3 := fun e => by have n0 := (World.ownsRow.lt hO7 B3 e).1; omega
   have ab4 : (Value.slice (some ⟨b7, 0, none⟩) (m + 1) c7).ownBlock ≠ some B4 := fun e => by have n0 := (World.ownsRow.lt hO7 B4 e).1; omega
   have ab29 : (Value.slice (some ⟨b7, 0, none⟩) (m + 1) c7).ownBlock ≠ some J12 := fun e => by have n0 := (World.ownsRow.lt hO7 J12 e).1; have n9 := nhO7_b29 J12 e; omega
   have hzz := HB.out.size; refine listF_step rfl (fun K' hK => ?_); refine opF_app (d := 30) rfl (by decide) (.tmp 17) (.tmp 29) _ rfl 3 i1 _ 8 Try.underlying47 hi1 hz1 hy1 hx1 rfl (by decide) (fun _ => rfl) int_one NB (Value.slice (some ⟨b7, 0, none⟩) (m + 1) c7) (LL k lw (m + 1)) [(strS k lw (m + 1))] (some ⟨J12, 0, none⟩) 1 (by go_simp) (by go_simp) hO7 (Cells.rd (f := int1) (m := 1) (l := [(strS k lw (m + 1))]) (fun _ => rfl) kb29) (by unfold maxLen; rw [LL_len]; simp; omega) (by rw [LL_len]; simp; omega) (by omega) (fun v30 w15 hO' hG hV => hK _ _ ?_); clear hK K' hzz; clear qb3 qb4 qb29; replace kb3 := kb3.grown hG ab3; clear ab3; replace kb4 := kb4.grown hG ab4; clear ab4; replace kb29 := kb29.grown hG ab29; clear ab29; replace HB := hid (HB.out.grown hG (fun k hk => .inl (by have := (World.ownsRow.lt hO7 k hk).1; omega))); clear hO7; have hO7 := hO'; clear hO' hG hV; clear nhO7_b29; have qb3 := kb3.1; have qb4 := kb4.1
   have qb29 := kb29.1; rw [← LL_succ] at hO7; obtain ⟨b30, c30, rfl⟩ := own_ne hO7 (by intro e; have := congrArg List.length e; rw [LL_len] at this; simp at this); rw [LL_len] at hO7 ⊢; refine pl ?_; refine listF_abs (fun s16 z' => ?_); replace sl2 := gs 2 z' sl2; replace sl3 := gs 3 z' sl3; replace sl4 := gs 4 z' sl4; replace sl7 := gu 7 z'; replace sl8 := gs 8 z' sl8; clear z' sl14; refine listF_nil ?_
   repeat ((fail_if_success refine stp ?_); with_reducible go_step)
   refine region_F ?_
   iterate 3 refine pl ?_
   refine listF_abs (fun s17 z' => ?_); replace sl2 := gs 2 z' sl2; replace sl3 := gs 3 z' sl3; replace sl4 := gs 4 z' sl4; replace sl7 := gs 7 z' sl7; replace sl8 := gu 8 z'; clear z'; refine listF_nil ?_
   repeat ((fail_if_success refine stp ?_); with_reducible go_step)
   refine ⟨_, _, rfl, ?_, m + 1, b30, c30, rfl, (by first | (with_reducible exact sl7) | (rw [sl7]; (with_reducible go_num); done) | (rw [sl7, IntWalk.i64_in] <;> first | ((with_reducible go_num); done) | omega) | (rw [sl7]; go_num; done) | (rw [sl7]; simp; done) | (rw [sl7]; simp; omega)), (by first | (with_reducible exact sl8) | (rw [sl8]; (with_reducible go_num); done) | (rw [sl8, IntWalk.i64_in] <;> first | ((with_reducible go_num); done) | omega) | (rw [sl8]; go_num; done) | (rw [sl8]; simp; done) | (rw [sl8]; simp; omega)), (sl2.trans hc0_2.out.symm), (sl3.trans hc0_3.out.symm), (sl4.trans hc0_4.out.symm), HB.out, by omega, kb3, kb4, hO7⟩
   omega
  case dep21 =>
    iterate 12 refine dR ?_
    refine depR_cons (fun X X' h => ?_) ?_
    · (first | exact ⟨rfl, rfl⟩ | (have e12 := h 12 (by decide +kernel); constructor <;> (first | rfl | (simp only [e12]))))
    exact depR_nil
 ·skip
  have hmu : m = u := by have h := h14; simp at h; omega
  subst hmu
  repeat ((fail_if_success refine stp ?_); with_reducible go_step)
  clear hc0_2 hc0_3 hc0_4; refine region_F ?_; refine pl ?_; refine pl ?_; refine listF_abs (fun s18 z' => ?_); have sl6 := gu 6 z'; clear z' sl2 sl3 sl4 sl7 sl8 sl14; refine listF_nil ?_
  repeat ((fail_if_success refine stp ?_); with_reducible go_step)
  refine ret_F _ (res_t Try.results41 ((getD_F (by decide)).trans sl6)) ?_; exact ⟨b7, c7, rfl, Own.base hO7 gNB, HB.out.toBelow⟩


end

section
open Go.RowKit


end
end

section
def Incr (l : List Int) : Prop := ∀ i j, i < j → j < l.length → l.getD i 0 < l.getD j 0
theorem Incr.le {l : List Int} (h : Incr l) {i j : Nat} (hij : i ≤ j) (hj : j < l.length) : l.getD i 0 ≤ l.getD j 0 := by
  by_cases e : i = j
  · subst e; exact Int.le_refl _
  · have := h i j (by omega) hj; omega
theorem lastIn_in (l : List Int) (f c : Int) (a : Nat) : ∀ i, 0 ≤ lastIn l f c a i → f ≤ l.getD (lastIn l f c a i).toNat 0 ∧ l.getD (lastIn l f c a i).toNat 0 ≤ c
  | 0, h => by unfold lastIn at h; omega
  | i + 1, h => by
    unfold lastIn at h ⊢
    by_cases hc : a ≤ i ∧ f ≤ l.getD i 0 ∧ l.getD i 0 ≤ c
    · rw [if_pos hc]; exact hc.2
    · rw [if_neg hc] at h ⊢; exact lastIn_in l f c a i h
theorem plan_go {k : Kd} {l : List Int} {f u : Int} {n : Nat} {can : Int} {a : Nat} {p : List Int} (h : planGo k l f u (n + 1) can a = some p) :
    ((can < 0 ∨ u < can) ∧ p = []) ∨ (¬ (can < 0 ∨ u < can) ∧ ∃ (j : Nat) (p' : List Int), p = (j : Int) :: p' ∧ a ≤ j ∧ j < l.length ∧ f ≤ l.getD j 0 ∧ l.getD j 0 ≤ can ∧ planGo k l f u n (canAt k (l.getD j 0)) (j + 1) = some p') := by
  unfold planGo at h
  by_cases hc : can < 0 ∨ u < can
  · rw [if_pos hc] at h; left; exact ⟨hc, by cases h; rfl⟩
  · rw [if_neg hc] at h; right
    by_cases hl : lastIn l f can a l.length < 0
    · rw [if_pos hl] at h; cases h
    · rw [if_neg hl] at h
      obtain ⟨b1, b2, b3⟩ := lastIn_bd l f can a l.length
      have b4 := b3 (by omega)
      obtain ⟨c1, c2⟩ := lastIn_in l f can a l.length (by omega)
      obtain ⟨j, hj⟩ : ∃ j : Nat, lastIn l f can a l.length = j := ⟨(lastIn l f can a l.length).toNat, by omega⟩
      rw [hj, Int.toNat_natCast] at h c1 c2
      rw [Option.map_eq_some_iff] at h
      obtain ⟨p', h1, h2⟩ := h
      exact ⟨hc, j, p', h2.symm, by omega, by omega, c1, c2, h1⟩
theorem plan_in {k : Kd} {l : List Int} {f u : Int} : ∀ (n : Nat) {can : Int} {a : Nat} {p : List Int}, planGo k l f u n can a = some p → ∀ x ∈ p, (a : Int) ≤ x ∧ x < l.length ∧ f ≤ l.getD x.toNat 0
  | 0, _, _, _, h => by cases h
  | n + 1, can, a, p, h => by
    rcases plan_go h with ⟨_, rfl⟩ | ⟨_, j, p', rfl, h1, h2, h3, h4, h5⟩
    · intro x hx; cases hx
    · intro x hx
      rcases List.mem_cons.1 hx with rfl | hx
      · exact ⟨by omega, by omega, by rw [Int.toNat_natCast]; exact h3⟩
      · have := plan_in n h5 x hx
        exact ⟨by omega, this.2⟩
theorem below_reach {s n w : Int} {d : Nat} (hn : 0 < n) (hw : 0 ≤ w) (h : s - (d : Int) * w < n) : 0 ≤ below s n w ∧ below s n w ≤ d := by
  have hex : 0 ≤ below s n w := by
    unfold below
    split
    · exact Int.le_refl _
    · rename_i h1
      have h0 : ¬ w = 0 := by intro e; rw [e] at h; simp at h; omega
      rw [if_neg (by omega)]
      exact Int.ediv_nonneg (by omega) hw
  exact ⟨hex, (below_spec hw (by omega)).1 h hex⟩
/-- strengths, hour by hour, with what is replaced in the hours of R -/
structure Path (k : Kd) (R : Int → Prop) (F : Nat → Int) (b U : Nat) : Prop where
  new : ∀ t, b ≤ t → t < U → R ((t + 1 : Nat) : Int) → F (t + 1) = k.new
  dn : ∀ t, b ≤ t → t < U → ¬ R ((t + 1 : Nat) : Int) → max 0 (F t - k.wear.hi) ≤ F (t + 1)
theorem path_seg {k : Kd} {R : Int → Prop} {F : Nat → Int} {b U : Nat} (h : Path k R F b U) : ∀ d : Nat, b + d ≤ U → (∀ t, b < t → t ≤ b + d → ¬ R (t : Int)) → F b - (d : Int) * k.wear.hi ≤ F (b + d)
  | 0, _, _ => by simp
  | d + 1, hd, hR => by
    have h1 := path_seg h d (by omega) (fun t h2 h3 => hR t h2 (by omega))
    have h2 := h.dn (b + d) (by omega) (by omega) (hR (b + d + 1) (by omega) (by omega))
    have : ((d + 1 : Nat) : Int) * k.wear.hi = d * k.wear.hi + k.wear.hi := by rw [Int.natCast_add, Int.add_mul]; simp
    rw [show b + (d + 1) = b + d + 1 by omega]
    omega
theorem seg_safe {k : Kd} (hK : KOk k) {R : Int → Prop} {F : Nat → Int} {b U : Nat} (h : Path k R F b U) {s : Span} (hs : s.lo ≤ F b) (hnn : ∀ t, 0 ≤ F t) {t : Nat} (hb : b ≤ t) (hU : t ≤ U) (hR : ∀ t', b < t' → t' ≤ t → ¬ R (t' : Int)) (hc : (failsOf k s b).earliest < 0 ∨ (t : Int) < (failsOf k s b).earliest) : needed k 1000 ≤ F t := by
  by_cases hlt : needed k 1000 ≤ F t
  · exact hlt
  · exfalso
    obtain ⟨d, rfl⟩ : ∃ d, t = b + d := ⟨t - b, by omega⟩
    have h1 := path_seg h d hU hR
    have h2 := hnn (b + d)
    have hw0 := hK.w0; have hw1 := hK.w1
    obtain ⟨r1, r2⟩ := below_reach (s := s.lo) (n := needed k 1000) (w := k.wear.hi) (d := d) (by omega) (by omega) (by omega)
    unfold failsOf failAt at hc
    simp only at hc
    rw [if_neg (by omega)] at hc
    omega
theorem plan_safe {k : Kd} {l : List Int} {f : Int} (hK : KOk k) (hi : Incr l) {F : Nat → Int} (hnn : ∀ t, 0 ≤ F t) {U : Nat} : ∀ (n : Nat) {can : Int} {a : Nat} {p : List Int} {b : Nat} {s : Span}, planGo k l f U n can a = some p → can = (failsOf k s b).earliest → s.lo ≤ F b →
    (∀ x ∈ p, (b : Int) < l.getD x.toNat 0) → Path k (fun t => ∃ x ∈ p, l.getD x.toNat 0 = t) F b U → ∀ t, b ≤ t → t ≤ U → needed k 1000 ≤ F t
  | 0, _, _, _, _, _, h => by cases h
  | n + 1, can, a, p, b, s, h => by
    intro hcan hs hbp hP t hbt htU
    rcases plan_go h with ⟨hc, rfl⟩ | ⟨hc, j, p', rfl, h1, h2, h3, h4, h5⟩
    · exact seg_safe hK hP hs hnn hbt htU (fun t' _ _ hR => by obtain ⟨x, hx, _⟩ := hR; cases hx) (by rw [← hcan]; omega)
    · have hbj := hbp j (by simp)
      rw [Int.toNat_natCast] at hbj
      have hin := plan_in n h5
      obtain ⟨g, hg⟩ : ∃ g : Nat, l.getD j 0 = g := ⟨(l.getD j 0).toNat, by omega⟩
      have hlt : ∀ x ∈ p', (g : Int) < l.getD x.toNat 0 := fun x hx => by
        obtain ⟨x1, x2, _⟩ := hin x hx
        rw [← hg]; exact hi j x.toNat (by omega) (by omega)
      by_cases htg : t < g
      · refine seg_safe hK hP hs hnn hbt htU (fun t' ht1 ht2 hR => ?_) (by rw [← hcan]; omega)
        obtain ⟨x, hx, he⟩ := hR
        rcases List.mem_cons.1 hx with rfl | hx
        · rw [Int.toNat_natCast] at he; omega
        · have := hlt x hx; omega
      · have hgU : g ≤ U := by omega
        have hFg : F g = k.new := by
          have := hP.new (g - 1) (by omega) (by omega) ⟨j, by simp, by rw [Int.toNat_natCast, hg]; congr 1; omega⟩
          rw [show g - 1 + 1 = g by omega] at this
          exact this
        refine plan_safe hK hi hnn n h5 (b := g) (s := newSpan k) (by unfold canAt; rw [hg]) (by rw [hFg]; exact Int.le_refl _) hlt ⟨fun t' e1 e2 hR => ?_, fun t' e1 e2 hR => ?_⟩ t (by omega) htU
        · obtain ⟨x, hx, he⟩ := hR
          exact hP.new t' (by omega) e2 ⟨x, by simp [hx], he⟩
        · refine hP.dn t' (by omega) e2 ?_
          rintro ⟨x, hx, he⟩
          rcases List.mem_cons.1 hx with rfl | hx
          · rw [Int.toNat_natCast] at he; omega
          · exact hR ⟨x, hx, he⟩
/-- from an hour on, in which it may be replaced, too -/
theorem plan_all {k : Kd} {l : List Int} (hK : KOk k) (hi : Incr l) {F : Nat → Int} (hnn : ∀ t, 0 ≤ F t) {b U : Nat} {p : List Int} {s : Span} (h : planR k l (failsOf k s b).earliest b U = some p)
    (h0 : (∃ x ∈ p, l.getD x.toNat 0 = (b : Int)) → F b = k.new) (h1 : (¬ ∃ x ∈ p, l.getD x.toNat 0 = (b : Int)) → s.lo ≤ F b) (hP : Path k (fun t => ∃ x ∈ p, l.getD x.toNat 0 = t) F b U) : ∀ t, b ≤ t → t ≤ U → needed k 1000 ≤ F t := by
  unfold planR at h
  have hin := plan_in _ h
  by_cases hR : ∃ x ∈ p, l.getD x.toNat 0 = (b : Int)
  · rcases plan_go h with ⟨hc, rfl⟩ | ⟨hc, j, p', rfl, g1, g2, g3, g4, g5⟩
    · obtain ⟨x, hx, _⟩ := hR; cases hx
    · have hin' := plan_in _ g5
      have hjb : l.getD j 0 = (b : Int) := by
        obtain ⟨x, hx, he⟩ := hR
        rcases List.mem_cons.1 hx with rfl | hx
        · rw [Int.toNat_natCast] at he; exact he
        · obtain ⟨x1, x2, x3⟩ := hin' x hx
          have := hi j x.toNat (by omega) (by omega)
          omega
      have hlt : ∀ x ∈ p', (b : Int) < l.getD x.toNat 0 := fun x hx => by
        obtain ⟨x1, x2, _⟩ := hin' x hx
        rw [← hjb]; exact hi j x.toNat (by omega) (by omega)
      refine plan_safe hK hi hnn _ g5 (b := b) (s := newSpan k) (by unfold canAt; rw [hjb]) (by rw [h0 hR]; exact Int.le_refl _) hlt ⟨fun t' e1 e2 hR' => ?_, fun t' e1 e2 hR' => ?_⟩
      · obtain ⟨x, hx, he⟩ := hR'
        exact hP.new t' (by omega) e2 ⟨x, by simp [hx], he⟩
      · refine hP.dn t' (by omega) e2 ?_
        rintro ⟨x, hx, he⟩
        rcases List.mem_cons.1 hx with rfl | hx
        · rw [Int.toNat_natCast] at he; omega
        · exact hR' ⟨x, hx, he⟩
  · refine plan_safe hK hi hnn _ h rfl (h1 hR) (fun x hx => ?_) hP
    have := (hin x hx).2.2
    by_cases e : l.getD x.toNat 0 = (b : Int)
    · exact absurd ⟨x, hx, e⟩ hR
    · omega

/- the fewest -/
/-- another plan's path, with the greatest wear -/
structure Worst (k : Kd) (l : List Int) (W : Nat → Bool) (F : Nat → Int) (b U : Nat) : Prop where
  new : ∀ t, b ≤ t → t < U → (∃ i, i < l.length ∧ W i = true ∧ l.getD i 0 = ((t + 1 : Nat) : Int)) → F (t + 1) = k.new
  up : ∀ t, b ≤ t → t < U → (¬ ∃ i, i < l.length ∧ W i = true ∧ l.getD i 0 = ((t + 1 : Nat) : Int)) → F (t + 1) ≤ max 0 (F t - k.wear.hi)
theorem Worst.from {k : Kd} {l : List Int} {W : Nat → Bool} {F : Nat → Int} {b b' U : Nat} (h : Worst k l W F b U) (hb : b ≤ b') : Worst k l W F b' U := ⟨fun t h1 => h.new t (by omega), fun t h1 => h.up t (by omega)⟩
end


end Go.Proofs.Ytndcmmghgljinaa
