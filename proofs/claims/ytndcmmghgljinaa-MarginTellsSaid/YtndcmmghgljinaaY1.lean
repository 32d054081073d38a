/- Arguments of the laws, opened; worn, wear, lived, made; slices of checks. -/
import Derived.Test.YtndcmmghgljinaaR2
import Derived.Test.YtndcmmghgljinaaW3
import Derived.Test.YtndcmmghgljinaaM8
import Derived.Test.YtndcmmghgljinaaW12
import Derived.Test.YtndcmmghgljinaaW18
import Derived.Test.YtndcmmghgljinaaW5
set_option linter.all false
namespace Go.Proofs.Ytndcmmghgljinaa

section
open Go.RowKit


open Go.ChangeShapes Go.WideShapes Go.ChangeAt Go.RowKit Go.Deep
section
variable {H : Type} {enc : TypeId × Value → H} {w : World} {spare : Nat → Bool} {n : Nat}
theorem okWide_array {P : Program} {w : World} {r : Reach} {base n : Nat} {t e : TypeId} {v : Value} (ht : P.underlying t = some (.array n e)) (h : Value.okWide P w r base t v) : ∃ cs, v = .agg cs ∧ cs.size = P.cellsOf t := by
  simp only [Value.okWide, ht] at h
  obtain ⟨cs, h1, h2, _⟩ := h; exact ⟨cs, h1, h2⟩

theorem fld_u16 {i : Nat} {xs : List (DataW H × List MemPlace)} {l : List Value} (hf : DataW.trod enc Try.prog w 0 spare true n 64 l = xs[i]?) (hi : i < xs.length) : ∃ k, l = [.int .u16 k] ∧ (0 ≤ k ∧ k ≤ 65535) := by
  rw [List.getElem?_eq_getElem hi] at hf; obtain ⟨k, hk, _, hw⟩ := DataW.trod_int Try.underlying64 hf; exact ⟨k, hk, bounds_u16 hw⟩

theorem fld_u32 {i : Nat} {xs : List (DataW H × List MemPlace)} {l : List Value} (hf : DataW.trod enc Try.prog w 0 spare true n 71 l = xs[i]?) (hi : i < xs.length) : ∃ k, l = [.int .u32 k] ∧ (0 ≤ k ∧ k ≤ 4294967295) := by
  rw [List.getElem?_eq_getElem hi] at hf; obtain ⟨k, hk, _, hw⟩ := DataW.trod_int Try.underlying71 hf; exact ⟨k, hk, bounds_u32 hw⟩

set_option maxRecDepth 100000 in
theorem open_u16_4 {base : Nat} {v : Value} {d : DataW H} {p : List MemPlace} (hv : Value.okWide Try.prog w .any base 96 v) (h : DataW.Trod enc Try.prog w 0 spare true 96 v d p) :
    ∃ x0 x1 x2 x3 : Int, v = .agg #[.int .u16 x0, .int .u16 x1, .int .u16 x2, .int .u16 x3] ∧ (0 ≤ x0 ∧ x0 ≤ 65535) ∧ (0 ≤ x1 ∧ x1 ≤ 65535) ∧ (0 ≤ x2 ∧ x2 ≤ 65535) ∧ (0 ≤ x3 ∧ x3 ≤ 65535) := by
  obtain ⟨cs0, rfl, hsz⟩ := okWide_array Try.underlying96 hv; obtain ⟨fuel, hf0⟩ := h; have e : Value.cells (.agg cs0) = cs0 := rfl; rw [e] at hf0; obtain ⟨xs, m, _, _, hlen, hx, hf⟩ := DataW.trod_array Try.underlying96 hf0; have hl : cs0.toList.length = 4 := hlen.trans (by kernel_rfl)
  have ec : Try.prog.cellsOf 64 = 1 := by kernel_rfl
  obtain ⟨cs0⟩ := cs0
  match cs0, hl with
  | [c0, c1, c2, c3], _ =>
    obtain ⟨x0, h0, b0⟩ := fld_u16 (hf 0 (by decide)) (by omega); obtain ⟨x1, h1, b1⟩ := fld_u16 (hf 1 (by decide)) (by omega); obtain ⟨x2, h2, b2⟩ := fld_u16 (hf 2 (by decide)) (by omega); obtain ⟨x3, h3, b3⟩ := fld_u16 (hf 3 (by decide)) (by omega)
    simp [ec] at h0 h1 h2 h3
    subst h0 h1 h2 h3; exact ⟨x0, x1, x2, x3, rfl, b0, b1, b2, b3⟩

set_option maxRecDepth 100000 in
theorem open_u16_3 {base : Nat} {v : Value} {d : DataW H} {p : List MemPlace} (hv : Value.okWide Try.prog w .any base 81 v) (h : DataW.Trod enc Try.prog w 0 spare true 81 v d p) :
    ∃ x0 x1 x2 : Int, v = .agg #[.int .u16 x0, .int .u16 x1, .int .u16 x2] ∧ (0 ≤ x0 ∧ x0 ≤ 65535) ∧ (0 ≤ x1 ∧ x1 ≤ 65535) ∧ (0 ≤ x2 ∧ x2 ≤ 65535) := by
  obtain ⟨cs0, rfl, hsz⟩ := okWide_array Try.underlying81 hv; obtain ⟨fuel, hf0⟩ := h; have e : Value.cells (.agg cs0) = cs0 := rfl; rw [e] at hf0; obtain ⟨xs, m, _, _, hlen, hx, hf⟩ := DataW.trod_array Try.underlying81 hf0; have hl : cs0.toList.length = 3 := hlen.trans (by kernel_rfl)
  have ec : Try.prog.cellsOf 64 = 1 := by kernel_rfl
  obtain ⟨cs0⟩ := cs0
  match cs0, hl with
  | [c0, c1, c2], _ =>
    obtain ⟨x0, h0, b0⟩ := fld_u16 (hf 0 (by decide)) (by omega); obtain ⟨x1, h1, b1⟩ := fld_u16 (hf 1 (by decide)) (by omega); obtain ⟨x2, h2, b2⟩ := fld_u16 (hf 2 (by decide)) (by omega)
    simp [ec] at h0 h1 h2
    subst h0 h1 h2; exact ⟨x0, x1, x2, rfl, b0, b1, b2⟩

set_option maxRecDepth 100000 in
theorem open_u16_2 {base : Nat} {v : Value} {d : DataW H} {p : List MemPlace} (hv : Value.okWide Try.prog w .any base 83 v) (h : DataW.Trod enc Try.prog w 0 spare true 83 v d p) :
    ∃ x0 x1 : Int, v = .agg #[.int .u16 x0, .int .u16 x1] ∧ (0 ≤ x0 ∧ x0 ≤ 65535) ∧ (0 ≤ x1 ∧ x1 ≤ 65535) := by
  obtain ⟨cs0, rfl, hsz⟩ := okWide_array Try.underlying83 hv; obtain ⟨fuel, hf0⟩ := h; have e : Value.cells (.agg cs0) = cs0 := rfl; rw [e] at hf0; obtain ⟨xs, m, _, _, hlen, hx, hf⟩ := DataW.trod_array Try.underlying83 hf0; have hl : cs0.toList.length = 2 := hlen.trans (by kernel_rfl)
  have ec : Try.prog.cellsOf 64 = 1 := by kernel_rfl
  obtain ⟨cs0⟩ := cs0
  match cs0, hl with
  | [c0, c1], _ =>
    obtain ⟨x0, h0, b0⟩ := fld_u16 (hf 0 (by decide)) (by omega); obtain ⟨x1, h1, b1⟩ := fld_u16 (hf 1 (by decide)) (by omega)
    simp [ec] at h0 h1
    subst h0 h1; exact ⟨x0, x1, rfl, b0, b1⟩

set_option maxRecDepth 100000 in
theorem open_u32_2 {base : Nat} {v : Value} {d : DataW H} {p : List MemPlace} (hv : Value.okWide Try.prog w .any base 72 v) (h : DataW.Trod enc Try.prog w 0 spare true 72 v d p) :
    ∃ x0 x1 : Int, v = .agg #[.int .u32 x0, .int .u32 x1] ∧ (0 ≤ x0 ∧ x0 ≤ 4294967295) ∧ (0 ≤ x1 ∧ x1 ≤ 4294967295) := by
  obtain ⟨cs0, rfl, hsz⟩ := okWide_array Try.underlying72 hv; obtain ⟨fuel, hf0⟩ := h; have e : Value.cells (.agg cs0) = cs0 := rfl; rw [e] at hf0; obtain ⟨xs, m, _, _, hlen, hx, hf⟩ := DataW.trod_array Try.underlying72 hf0; have hl : cs0.toList.length = 2 := hlen.trans (by kernel_rfl)
  have ec : Try.prog.cellsOf 71 = 1 := by kernel_rfl
  obtain ⟨cs0⟩ := cs0
  match cs0, hl with
  | [c0, c1], _ =>
    obtain ⟨x0, h0, b0⟩ := fld_u32 (hf 0 (by decide)) (by omega); obtain ⟨x1, h1, b1⟩ := fld_u32 (hf 1 (by decide)) (by omega)
    simp [ec] at h0 h1
    subst h0 h1; exact ⟨x0, x1, rfl, b0, b1⟩

set_option maxRecDepth 100000 in
theorem open_i64_2 {base : Nat} {v : Value} {d : DataW H} {p : List MemPlace} (hv : Value.okWide Try.prog w .any base 54 v) (h : DataW.Trod enc Try.prog w 0 spare true 54 v d p) :
    ∃ x0 x1 : Int, v = .agg #[.int .i64 x0, .int .i64 x1] ∧ (-9223372036854775808 ≤ x0 ∧ x0 ≤ 9223372036854775807) ∧ (-9223372036854775808 ≤ x1 ∧ x1 ≤ 9223372036854775807) := by
  obtain ⟨cs0, rfl, hsz⟩ := okWide_array Try.underlying54 hv; obtain ⟨fuel, hf0⟩ := h; have e : Value.cells (.agg cs0) = cs0 := rfl; rw [e] at hf0; obtain ⟨xs, m, _, _, hlen, hx, hf⟩ := DataW.trod_array Try.underlying54 hf0; have hl : cs0.toList.length = 2 := hlen.trans (by kernel_rfl)
  have ec : Try.prog.cellsOf 3 = 1 := by kernel_rfl
  obtain ⟨cs0⟩ := cs0
  match cs0, hl with
  | [c0, c1], _ =>
    obtain ⟨x0, h0, b0⟩ := fld_int (hf 0 (by decide)) (by omega); obtain ⟨x1, h1, b1⟩ := fld_int (hf 1 (by decide)) (by omega)
    simp [ec] at h0 h1
    subst h0 h1; exact ⟨x0, x1, rfl, b0, b1⟩

end
end

section
open Go.RowKit


abbrev u16c (n : Int) : List Value := [.int .u16 n]
abbrev RdU := Rd u16c 1
def U16 (l : List Int) : Prop := ∀ x ∈ l, 0 ≤ x ∧ x ≤ 65535
theorem RdU.ne {w : World} {a : Option Addr} {l : List Int} (h : RdU w a l) {k : Nat} (hk : k < l.length) :
    ∃ b off, a = some ⟨b, off, none⟩ ∧ b < w.heap.size ∧ w.cell? ⟨b, off + k, none⟩ = some (.int .u16 l[k]) := by
  obtain ⟨b, off, ha, hb, hc⟩ := Rd.ne h hk; exact ⟨b, off, ha, hb, by simpa using hc 0 _ rfl⟩
/-- the n-th number of a list, by turns -/
def wearAt (l : List Int) (n : Nat) : Int := if l.length = 0 then 0 else l.getD (n % l.length) 0
theorem wearAt_bd {l : List Int} (h : U16 l) (n : Nat) : 0 ≤ wearAt l n ∧ wearAt l n ≤ 65535 := by
  unfold wearAt
  split
  · omega
  · have hm : n % l.length < l.length := Nat.mod_lt _ (by omega)
    rw [getD_get hm]; exact h _ (List.getElem_mem hm)
theorem u16_wrap {n : Int} (h : 0 ≤ n ∧ n ≤ 65535) : IntKind.i64.wrap n = n := IntWalk.i64_in _ (by omega)

set_option maxRecDepth 100000 in
set_option maxHeartbeats 1000000 in
theorem wear_any (a : Option Addr) (c : Nat) (l : List Int) (n : Nat) (w : World) (hl : l.length ≤ 9223372036854775807) (hn : n ≤ 100000) (hR : RdU w a l) :
    Calls Try.prog 45 #[.slice a l.length c, .int .i64 (n : Int)] w (fun e w' => e = .returned (.int .u16 (wearAt l n)) ∧ Below w.heap.size w w') := by
 have HR := hid hR; clear hR
 refine enter_F Try.func45 rfl Try.ntmps45 (by simp) ?_
 intro s0 hs; have sl0 : s0 0 = .slice a l.length c := hs 0 (by simp); have sl1 : s0 1 = .int .i64 (n : Int) := hs 1 (by simp); clear hs; have HB := hid (OldB.refl [] w)
 repeat ((fail_if_success refine stp ?_); with_reducible go_step)
 refine region_F ?_; refine pl ?_; refine listF_abs (fun s1 z' => ?_); replace sl0 := gs 0 z' sl0; replace sl1 := gs 1 z' sl1; clear z'; refine listF_nil ?_
 repeat ((fail_if_success refine stp ?_); with_reducible go_step)
 refine region_F ?_
 iterate 3 refine pl ?_
 refine listF_abs (fun s2 z' => ?_); replace sl0 := gs 0 z' sl0; replace sl1 := gs 1 z' sl1; have sl7 := gu 7 z'; clear z'; refine listF_nil ?_
 repeat ((fail_if_success refine stp ?_); with_reducible go_step)
 refine cond_E sl7 (by decide) ?_ ?_ <;> (clear sl7; intro h7 sl7)
 ·skip
  have h0 : l.length = 0 := by simpa using h7
  have He := hid (show wearAt l n = 0 by unfold wearAt; rw [if_pos h0])
  repeat ((fail_if_success refine stp ?_); with_reducible go_step)
  refine region_F ?_; refine pl ?_; refine listF_abs (fun s3 z' => ?_); have sl4 := gu 4 z'; clear z' sl0 sl1 sl7; refine listF_nil ?_
  repeat ((fail_if_success refine stp ?_); with_reducible go_step)
  refine ret_F _ (res_t Try.results45 ((getD_F (by decide)).trans sl4)) ?_; exact ⟨by rw [He.out], HB.out.toBelow⟩
 ·skip
  have h0 : ¬ l.length = 0 := by simpa using h7
  have hm : n % l.length < l.length := Nat.mod_lt _ (by omega); have He := hid (show wearAt l n = l[n % l.length] by unfold wearAt; rw [if_neg h0, getD_get hm]); obtain ⟨b, off, rfl, hb, c0⟩ := RdU.ne (Rd.oldB HR.out HB.out (by simp)) hm
  generalize l[n % l.length] = y at *
  have hz1 : ¬ (l.length : Int) = 0 := by omega
  have hm1 : (n : Int).tmod (l.length : Int) = ((n % l.length : Nat) : Int) := (Int.ofNat_tmod _ _).symm; have hm2 : IntKind.i64.wrap ((n % l.length : Nat) : Int) = ((n % l.length : Nat) : Int) := IntWalk.i64_in _ (by omega)
  have hm3 : ((n % l.length : Nat) : Int) < (l.length : Int) := by omega
  generalize hjj : n % l.length = jj at *
  have Hjj := hid hjj; clear hjj
  repeat ((fail_if_success refine stp ?_); with_reducible go_step)
  refine region_F ?_
  iterate 8 refine pl ?_
  refine listF_abs (fun s4 z' => ?_); have sl4 := gu 4 z'; clear z' sl0 sl1 sl7; refine listF_nil ?_
  repeat ((fail_if_success refine stp ?_); with_reducible go_step)
  refine ret_F _ (res_t Try.results45 ((getD_F (by decide)).trans sl4)) ?_; exact ⟨by rw [He.out], HB.out.toBelow⟩

set_option maxRecDepth 100000 in
set_option maxHeartbeats 1000000 in
theorem worn_any (k : Kd) (a : Option Addr) (c : Nat) (s n : Int) (w : World) (hK : KOk k) (hs : 0 ≤ s ∧ s ≤ 1000000) (hn : 0 ≤ n ∧ n ≤ 65535) :
    Calls Try.prog 44 #[.agg #[.int .i64 k.new, .int .i64 k.wear.lo, .int .i64 k.wear.hi, .slice a k.steps.length c], .int .i64 s, .int .u16 n] w (fun e w' => e = .returned (.int .i64 (max 0 (s - k.wear.lo - n % (k.wear.hi - k.wear.lo + 1)))) ∧ Below w.heap.size w w') := by
 have h0 := hK.w0; have h1 := hK.w1; have h2 := hK.w2; clear hK; have m0 := Int.emod_nonneg n (b := k.wear.hi - k.wear.lo + 1) (by omega); have m1 := Int.emod_lt_of_pos n (b := k.wear.hi - k.wear.lo + 1) (by omega); have hr : n.tmod (k.wear.hi - k.wear.lo + 1) = n % (k.wear.hi - k.wear.lo + 1) := Int.tmod_eq_emod_of_nonneg hn.1
 have hz : ¬ k.wear.hi - k.wear.lo + 1 = 0 := by omega
 have w1 := u16_wrap hn; have w2 : IntKind.i64.wrap (s - k.wear.lo) = s - k.wear.lo := IntWalk.i64_in _ (by omega); have w3 : IntKind.i64.wrap (k.wear.hi - k.wear.lo) = k.wear.hi - k.wear.lo := IntWalk.i64_in _ (by omega); have w4 : IntKind.i64.wrap (k.wear.hi - k.wear.lo + 1) = k.wear.hi - k.wear.lo + 1 := IntWalk.i64_in _ (by omega); obtain ⟨r, hr0⟩ : ∃ r, n % (k.wear.hi - k.wear.lo + 1) = r := ⟨_, rfl⟩; rw [hr0] at hr m0 m1 ⊢; clear hr0; have w5 : IntKind.i64.wrap r = r := IntWalk.i64_in _ (by omega); have w6 : IntKind.i64.wrap (s - k.wear.lo - r) = s - k.wear.lo - r := IntWalk.i64_in _ (by omega); clear m0 m1 hs hn h0 h1 h2
 refine enter_F Try.func44 rfl Try.ntmps44 (by simp) ?_
 intro s0 hs; have sl0 : s0 0 = .agg #[.int .i64 k.new, .int .i64 k.wear.lo, .int .i64 k.wear.hi, .slice a k.steps.length c] := hs 0 (by simp); have sl1 : s0 1 = .int .i64 s := hs 1 (by simp); have sl2 : s0 2 = .int .u16 n := hs 2 (by simp); clear hs; have HB := hid (OldB.refl [] w)
 repeat ((fail_if_success refine stp ?_); with_reducible go_step)
 refine region_F ?_; refine pa (fun w1 B3 hB kb3' hb2 => ?_); have gb3 := HB.out.gB hB; have eb3 := eB hB; clear hB; replace HB := hid (HB.out.below hb2); clear hb2; have kb3 := kb3'; clear kb3'; have qb3 := kb3.1; refine pl ?_; refine listF_abs (fun s3 z' => ?_); replace sl1 := gs 1 z' sl1; replace sl2 := gs 2 z' sl2; have sl3 := gu 3 z'; clear z' sl0; refine listF_nil ?_
 repeat ((fail_if_success refine stp ?_); with_reducible go_step)
 have cb3_0 := kb3.cell 0 rfl; have cb3_1 := kb3.cell 1 rfl; have cb3_2 := kb3.cell 2 rfl; have cb3_3 := kb3.cell 3 rfl; refine regionQ_F (Below w1.heap.size w1) (by kernel_rfl) (by kernel_rfl) (Below.refl _ _).drew ?_
 iterate 19 refine lq ?_
 refine listQ_nil ?_; intro w4 hb5; clear cb3_0 cb3_1 cb3_2 cb3_3; clear qb3; replace kb3 := kb3.at hb5; replace HB := hid (HB.out.below hb5); clear hb5; have qb3 := kb3.1
 repeat ((fail_if_success refine stp ?_); with_reducible go_step)
 refine ret_abs (fun s6 z' => ?_); have sl6 := gu 6 z'; clear z' sl1 sl2 sl3; refine ret_F _ (res_t Try.results44 ((getD_F (by decide)).trans sl6)) ?_; refine ⟨?_, HB.out.toBelow⟩
 simp only [ite_max]
end

section
open Go.RowKit


open Go.ChangeShapes Go.WideShapes Go.ChangeAt Go.RowKit Go.Deep
abbrev boolc (b : Bool) : List Value := [.bool b]
abbrev RdB := Rd boolc 1
section
variable {H : Type} {enc : TypeId × Value → H} {w : World} {spare : Nat → Bool} {n : Nat}
theorem sl_u16 {fuel : Nat} {cs : List Value} {x : DataW H × List MemPlace} (h : DataW.trod enc Try.prog w 0 spare true fuel 63 cs = some x) (hlt : ∀ p ∈ x.2, p.block < w.heap.size) : ∃ a c, ∃ l : List Int, cs = [.slice a l.length c] ∧ RdU w a l ∧ l.length ≤ 9223372036854775807 ∧ U16 l := by
  obtain ⟨a, c, l, h1, h2, h3, h4⟩ := open_rows (f := u16c) (m := 1) (ok := fun x : Int => 0 ≤ x ∧ x ≤ 65535) Try.underlying63 (by kernel_rfl) (fun n cs' z _ hz => by obtain ⟨k, hk, _, hw⟩ := DataW.trod_int Try.underlying64 hz; exact ⟨k, hk, bounds_u16 hw⟩) (by decide) h hlt; unfold maxLen at h3; exact ⟨a, c, l, h1, h2, by omega, h4⟩
theorem sl_bool {fuel : Nat} {cs : List Value} {x : DataW H × List MemPlace} (h : DataW.trod enc Try.prog w 0 spare true fuel 88 cs = some x) (hlt : ∀ p ∈ x.2, p.block < w.heap.size) : ∃ a c, ∃ l : List Bool, cs = [.slice a l.length c] ∧ RdB w a l ∧ l.length ≤ 9223372036854775807 := by
  obtain ⟨a, c, l, h1, h2, h3, h4⟩ := open_rows (f := boolc) (m := 1) (ok := fun _ : Bool => True) Try.underlying88 (by kernel_rfl) (fun n cs' z _ hz => by obtain ⟨k, hk, _⟩ := DataW.trod_bool Try.underlying4 hz; exact ⟨k, hk, trivial⟩) (by decide) h hlt; unfold maxLen at h3; exact ⟨a, c, l, h1, h2, by omega⟩
set_option maxRecDepth 100000 in
theorem open_life {base : Nat} {v : Value} {d : DataW H} {p : List MemPlace} (hv : Value.okWide Try.prog w .any base 66 v) (h : DataW.Trod enc Try.prog w 0 spare true 66 v d p) (hlt : ∀ x ∈ p, x.block < w.heap.size) :
    ∃ (lh : List Int) (ah : Option Addr) (ch : Nat) (lv : List Int) (av : Option Addr) (cv : Nat) (f : Int) (lw : List Int) (aw : Option Addr) (cw : Nat), v = .agg #[.slice ah lh.length ch, .slice av lv.length cv, .int .u16 f, .slice aw lw.length cw] ∧
      (RdU w ah lh ∧ lh.length ≤ 9223372036854775807 ∧ U16 lh) ∧ (RdU w av lv ∧ lv.length ≤ 9223372036854775807 ∧ U16 lv) ∧ (0 ≤ f ∧ f ≤ 65535) ∧ (RdU w aw lw ∧ lw.length ≤ 9223372036854775807 ∧ U16 lw) := by
  obtain ⟨cs0, rfl, hsz⟩ := okWide_struct Try.underlying66 hv; obtain ⟨fuel, hf0⟩ := h; have e : Value.cells (.agg cs0) = cs0 := rfl; rw [e] at hf0; obtain ⟨xs, n', _, hxe, hlen, hx, hf⟩ := DataW.trod_struct Try.underlying66 hf0; have hl : cs0.toList.length = 4 := hlen.trans (by kernel_rfl); have hxl : xs.length = 4 := hx.trans (by rfl)
  have ec : Try.prog.cellsOf 64 = 1 := by kernel_rfl
  have es : Try.prog.cellsOf 63 = 1 := by kernel_rfl
  obtain ⟨cs0⟩ := cs0
  match cs0, hl, xs, hxl with
  | [c0, c1, c2, c3], _, [x0, x1, x2, x3], _ =>
    have hp := (Prod.mk.inj hxe).2; have h0 := hf 0 _ rfl; have h1 := hf 1 _ rfl; obtain ⟨f, hf2, bf⟩ := fld_u16 (hf 2 _ rfl) (by simp); have h3 := hf 3 _ rfl
    simp [ec, es] at h0 h1 hf2 h3
    obtain ⟨a0, k0, l0, g0, r0⟩ := sl_u16 h0 (fun q hq => hlt q (by rw [hp]; simp [hq])); obtain ⟨a1, k1, l1, g1, r1⟩ := sl_u16 h1 (fun q hq => hlt q (by rw [hp]; simp [hq])); obtain ⟨a3, k3, l3, g3, r3⟩ := sl_u16 h3 (fun q hq => hlt q (by rw [hp]; simp [hq]))
    simp at g0 g1 g3
    subst g0 g1 hf2 g3; exact ⟨l0, a0, k0, l1, a1, k1, f, l3, a3, k3, rfl, r0, r1, bf, r3⟩
set_option maxRecDepth 100000 in
theorem open_kept {base : Nat} {v : Value} {d : DataW H} {p : List MemPlace} (hv : Value.okWide Try.prog w .any base 90 v) (h : DataW.Trod enc Try.prog w 0 spare true 90 v d p) (hlt : ∀ x ∈ p, x.block < w.heap.size) :
    ∃ (f u : Int) (lw : List Int) (aw : Option Addr) (cw : Nat) (lo : List Bool) (ao : Option Addr) (co : Nat), v = .agg #[.int .u16 f, .int .u16 u, .slice aw lw.length cw, .slice ao lo.length co] ∧
      (0 ≤ f ∧ f ≤ 65535) ∧ (0 ≤ u ∧ u ≤ 65535) ∧ (RdU w aw lw ∧ lw.length ≤ 9223372036854775807 ∧ U16 lw) ∧ (RdB w ao lo ∧ lo.length ≤ 9223372036854775807) := by
  obtain ⟨cs0, rfl, hsz⟩ := okWide_struct Try.underlying90 hv; obtain ⟨fuel, hf0⟩ := h; have e : Value.cells (.agg cs0) = cs0 := rfl; rw [e] at hf0; obtain ⟨xs, n', _, hxe, hlen, hx, hf⟩ := DataW.trod_struct Try.underlying90 hf0; have hl : cs0.toList.length = 4 := hlen.trans (by kernel_rfl); have hxl : xs.length = 4 := hx.trans (by rfl)
  have ec : Try.prog.cellsOf 64 = 1 := by kernel_rfl
  have es : Try.prog.cellsOf 63 = 1 := by kernel_rfl
  have eb : Try.prog.cellsOf 88 = 1 := by kernel_rfl
  obtain ⟨cs0⟩ := cs0
  match cs0, hl, xs, hxl with
  | [c0, c1, c2, c3], _, [x0, x1, x2, x3], _ =>
    have hp := (Prod.mk.inj hxe).2; obtain ⟨f, hf0, bf⟩ := fld_u16 (hf 0 _ rfl) (by simp); obtain ⟨u, hu0, bu⟩ := fld_u16 (hf 1 _ rfl) (by simp); have h2 := hf 2 _ rfl; have h3 := hf 3 _ rfl
    simp [ec, es, eb] at hf0 hu0 h2 h3
    obtain ⟨a2, k2, l2, g2, r2⟩ := sl_u16 h2 (fun q hq => hlt q (by rw [hp]; simp [hq])); obtain ⟨a3, k3, l3, g3, r3⟩ := sl_bool h3 (fun q hq => hlt q (by rw [hp]; simp [hq]))
    simp at g2 g3
    subst hf0 hu0 g2 g3; exact ⟨f, u, l2, a2, k2, l3, a3, k3, rfl, bf, bu, r2, r3⟩
end
end

section
open Go.RowKit


open Go.ChangeShapes Go.WideShapes Go.ChangeAt Go.RowKit Go.Deep
section
variable {H : Type} {enc : TypeId × Value → H} {w : World} {spare : Nat → Bool} {n : Nat}
set_option maxRecDepth 100000 in
theorem open_cksc {base : Nat} {v : Value} {d : DataW H} {p : List MemPlace} (hv : Value.okWide Try.prog w .any base 33 v) (h : DataW.Trod enc Try.prog w 0 spare true 33 v d p) (hlt : ∀ x ∈ p, x.block < w.heap.size) :
    ∃ (l : List MCk) (a : Option Addr) (c : Nat), v = .slice a l.length c ∧ RdCks w a l ∧ l.length ≤ 9223372036854775807 ∧ l.length ≤ c := by
  obtain ⟨l, a, c, rfl, h1, h2⟩ := open_cks hv h hlt; refine ⟨l, a, c, rfl, h1, h2, ?_⟩; obtain ⟨fuel, hf0⟩ := h
  rcases open_slice Try.underlying33 hf0 with ⟨he, _⟩ | ⟨a', len, cap, m', n, D, Pl, he, _, hl, hcap, _⟩
  · simp [Value.cells] at he
    obtain ⟨_, h3, _⟩ := he; rw [h3]; exact Nat.zero_le _
  · simp [Value.cells] at he
    obtain ⟨_, h3, h4⟩ := he
    omega
end
end

section
open Go.RowKit


theorem Rd.firstN {α : Type} {f : α → List Value} {m : Nat} {w : World} {a : Option Addr} {l : List α} (h : Rd f m w a l) (k : Nat) : Rd f m w a (l.take k) := by
  rcases h with h | ⟨b, off, ha, hlt, hc⟩
  · exact .inl (by simp [h])
  · exact .inr ⟨b, off, ha, hlt, fun i x hi j v hj => hc i x (by
      rw [List.getElem?_take] at hi
      split at hi
      · exact hi
      · cases hi) j v hj⟩
theorem ck_from (a : Option Addr) (len cap k : Nat) (hk : k ≤ len) (hc : len ≤ cap) : ∃ ad cd, (∀ w, (Instr.sliceAt 33 (.slice a len cap) (some (.int .i64 (k : Int))) none none).run Try.prog w = .ok (.slice ad (len - k) cd) w) ∧
    ∀ (w : World) (l : List MCk), l.length = len → RdCks w a l → RdCks w ad (l.drop k) := by
  have hu := Try.underlying33; refine ⟨if cap = k then a else a.map (·.add (k * 3)), cap - k, fun w => ?_, ?_⟩
  · have h0 : (0 : Int) ≤ (k : Int) := by omega
    have h1 : (k : Int) ≤ (len : Int) := by omega
    go_simp
  · intro w l hl h
    by_cases hd : l.drop k = []
    · exact .inl hd
    · have hlt : k < len := by
        rcases Nat.lt_or_ge k len with h | h
        · exact h
        · exact absurd (List.drop_eq_nil_of_le (by omega)) hd
      rw [if_neg (by omega)]
      rcases h with h | ⟨b, off, ha, hlt', hc'⟩
      · rw [h] at hd; simp at hd
      · subst ha
        refine .inr ⟨b, off + k * 3, by simp [Addr.add], hlt', fun i x hi j v hj => ?_⟩; have := hc' (k + i) x (by rw [List.getElem?_drop] at hi; exact hi) j v hj; rw [show off + k * 3 + i * 3 + j = off + (k + i) * 3 + j by omega]; exact this
theorem RdCks.at0 {w : World} {b off : Nat} {l : List MCk} {y : MCk} (h : RdCks w (some ⟨b, off, none⟩) l) (hl : 0 < l.length) (hy : l[0] = y) :
    b < w.heap.size ∧ w.cell? ⟨b, off, none⟩ = some (.int .i64 y.hour) ∧ w.cell? ⟨b, off + 1, none⟩ = some (.int .i64 y.volt) ∧ w.cell? ⟨b, off + 2, none⟩ = some (.bool y.passed) := by
  subst hy; obtain ⟨hb, hc⟩ := Rd.get h hl; refine ⟨hb, ?_, ?_, ?_⟩
  · have := hc 0 _ rfl; simpa using this
  · have := hc 1 _ rfl; simpa using this
  · have := hc 2 _ rfl; simpa using this
/-- the n-th of l things, by turns -/
theorem turn_nat {x : Int} {l : Nat} (hx : 0 ≤ x) (hb : x ≤ 4294967295) (hl : 0 < l) : ∃ n : Nat, x.tmod (l : Int) = (n : Int) ∧ n < l ∧ IntKind.i64.wrap (n : Int) = (n : Int) := by
  obtain ⟨y, rfl⟩ := Int.eq_ofNat_of_zero_le hx; have hm : y % l < l := Nat.mod_lt _ hl; have hm2 : y % l ≤ y := Nat.mod_le _ _; exact ⟨y % l, (Int.ofNat_tmod _ _).symm, hm, IntWalk.i64_in _ (by omega)⟩
end

section
open Go.RowKit


/-- strengths of a new valve hour by hour, with a list of wear by turns -/
def strS (k : Kd) (lw : List Int) : Nat → Int := wornS k (fun t => wearAt lw (t + 1)) k.new
def LL (k : Kd) (lw : List Int) (n : Nat) : List Int := (List.range n).map (strS k lw)
theorem LL_len {k : Kd} {lw : List Int} {n : Nat} : (LL k lw n).length = n := by simp [LL]
theorem LL_succ {k : Kd} {lw : List Int} {n : Nat} : LL k lw (n + 1) = LL k lw n ++ [strS k lw n] := by simp [LL, List.range_succ]
theorem LL_one {k : Kd} {lw : List Int} : LL k lw 1 = [k.new] := rfl
theorem LL_get {k : Kd} {lw : List Int} {n i : Nat} (hi : i < n) : (LL k lw n)[i]? = some (strS k lw i) := by
  unfold LL; rw [List.getElem?_map, List.getElem?_range hi]; rfl
theorem str_bd {k : Kd} (hK : KOk k) (lw : List Int) (t : Nat) : 0 ≤ strS k lw t ∧ strS k lw t ≤ 1000000 := wornS_bd hK (by have := hK.n0; omega) hK.n1 t
theorem str_truth {k : Kd} (hK : KOk k) (lw : List Int) : Truth k (strS k lw) := ⟨wornS_worn hK (by have := hK.n0; omega), rfl⟩
theorem LL_cell {k : Kd} {lw : List Int} {n i b : Nat} {w : World} (h : Cells w b ((LL k lw n).flatMap int1)) (hi : i < n) : w.cell? ⟨b, i, none⟩ = some (.int .i64 (strS k lw i)) := by
  have := flat_get int1 1 (fun _ => rfl) (LL k lw n) i _ (LL_get hi) 0 _ rfl; rw [Nat.mul_one, Nat.add_zero] at this; exact h.2.1 _ _ this
theorem own_ne {α : Type} {f : α → List Value} {m : Nat} {T : TypeId} {base : Nat} {w : World} {v : Value} {l : List α} (h : Own f m T base w v l) (hl : l ≠ []) : ∃ g c, v = .slice (some ⟨g, 0, none⟩) l.length c := by
  rcases h.form with ⟨_, h2⟩ | ⟨g, c, h2, _⟩
  · exact absurd h2 hl
  · exact ⟨g, c, h2⟩
theorem ite_of {c : Prop} [Decidable c] {A B : Prop} (hc : c) (h : A) : if c then A else B := by rw [if_pos hc]; exact h
theorem Own.setOff {α : Type} {f : α → List Value} {m : Nat} {T : TypeId} {base X o : Nat} {w : World} {v : Value} {l : List α} (h : Own f m T base w v l) (hn : v.ownBlock ≠ some X) (u : Value) : Own f m T base (w.setCell ⟨X, o, none⟩ u) v l :=
  h.kept fun g hg => Below.heap_setCell w _ u g (fun e => hn (by rw [hg]; exact congrArg some e))
theorem wear_succ (a : Option Addr) (c : Nat) (l : List Int) (n : Nat) (w : World) (hl : l.length ≤ 9223372036854775807) (hn : n + 1 ≤ 100000) (hR : RdU w a l) :
    Calls Try.prog 45 #[.slice a l.length c, .int .i64 ((n : Int) + 1)] w (fun e w' => e = .returned (.int .u16 (wearAt l (n + 1))) ∧ Below w.heap.size w w') := wear_any a c l (n + 1) w hl hn hR
theorem worn_step (k : Kd) (a : Option Addr) (c : Nat) (lw : List Int) (m : Nat) (w : World) (hK : KOk k) (hU : U16 lw) :
    Calls Try.prog 44 #[.agg #[.int .i64 k.new, .int .i64 k.wear.lo, .int .i64 k.wear.hi, .slice a k.steps.length c], .int .i64 (strS k lw m), .int .u16 (wearAt lw (m + 1))] w (fun e w' => e = .returned (.int .i64 (strS k lw (m + 1))) ∧ Below w.heap.size w w') := worn_any k a c _ _ w hK (str_bd hK lw m) (wearAt_bd hU _)
def LivedOwn (k : Kd) (lw : List Int) (u : Nat) (w : World) (e : Ending) (w' : World) : Prop := ∃ b c, e = .returned (.slice (some ⟨b, 0, none⟩) (u + 1) c) ∧ Own int1 1 3 w.heap.size w' (Value.slice (some ⟨b, 0, none⟩) (u + 1) c) (LL k lw (u + 1)) ∧ Below w.heap.size w w'
def LivedRes (k : Kd) (lw : List Int) (u : Nat) (w : World) (e : Ending) (w' : World) : Prop := ∃ b c, e = .returned (.slice (some ⟨b, 0, none⟩) (u + 1) c) ∧ Cells w' b ((LL k lw (u + 1)).flatMap int1) ∧ w.heap.size ≤ b ∧ Below w.heap.size w w'


theorem own_int {T : TypeId} {base g n c i : Nat} {w : World} {l : List Int} {x : Int} (h : Own int1 1 T base w (.slice (some ⟨g, 0, none⟩) n c) l) (hi : l[i]? = some x) : w.cell? ⟨g, i, none⟩ = some (.int .i64 x) := by
  have := Own.cells0 (f := int1) (m := 1) (fun _ => rfl) h i x hi 0 (.int .i64 x) rfl; rw [Nat.mul_one, Nat.add_zero] at this; exact this

set_option maxRecDepth 100000 in
set_option maxHeartbeats 8000000 in
theorem lived_own (k : Kd) (a : Option Addr) (c : Nat) (ah av : Option Addr) (nh ch nv cv : Nat) (x : Int) (aw : Option Addr) (cw : Nat) (lw : List Int) (u : Nat) (w : World) (hK : KOk k) (hRw : RdU w aw lw) (hlw : lw.length ≤ 9223372036854775807) (hU : U16 lw) (hu : u ≤ 99998) :
    Calls Try.prog 41 #[.agg #[.int .i64 k.new, .int .i64 k.wear.lo, .int .i64 k.wear.hi, .slice a k.steps.length c], .agg #[.slice ah nh ch, .slice av nv cv, .int .u16 x, .slice aw lw.length cw], .int .i64 (u : Int)] w (LivedOwn k lw u w) := by
 have HK := hid hK; have HRw := hid hRw; have HU := hid hU; clear hK hRw hU; obtain ⟨i1, hi1, hz1, hy1, hx1⟩ := info_parts info_int
 refine enter_F Try.func41 rfl Try.ntmps41 (by simp) ?_
 intro s0 hs; have sl0 : s0 0 = .agg #[.int .i64 k.new, .int .i64 k.wear.lo, .int .i64 k.wear.hi, .slice a k.steps.length c] := hs 0 (by simp); have sl1 : s0 1 = .agg #[.slice ah nh ch, .slice av nv cv, .int .u16 x, .slice aw lw.length cw] := hs 1 (by simp); have sl2 : s0 2 = .int .i64 (u : Int) := hs 2 (by simp); clear hs; have HB := hid (OldB.refl [] w)
 repeat ((fail_if_success refine stp ?_); with_reducible go_step)
 refine region_F ?_; refine pa (fun w1 B3 hB kb3' hb2 => ?_); have gb3 := HB.out.gB hB; have eb3 := eB hB; clear hB; replace HB := hid (HB.out.below hb2); clear hb2; have kb3 := kb3'; clear kb3'; have qb3 := kb3.1; refine pa (fun w3 B4 hB kb4' hb4 => ?_); have gb4 := HB.out.gB hB; have ob3_b4 := oB qb3 hB; have eb4 := eB hB; clear hB; clear qb3; replace kb3 := kb3.at hb4; replace HB := hid (HB.out.below hb4); clear hb4; have qb3 := kb3.1; have kb4 := kb4'; clear kb4'; have qb4 := kb4.1; refine pl ?_; refine listF_abs (fun s5 z' => ?_); replace sl2 := gs 2 z' sl2; have sl3 := gu 3 z'; have sl4 := gu 4 z'; clear z' sl0 sl1; refine listF_nil ?_
 repeat ((fail_if_success refine stp ?_); with_reducible go_step)
 refine region_F ?_; refine pl ?_; have cb3_0 := kb3.cell 0 rfl; have cb3_1 := kb3.cell 1 rfl; have cb3_2 := kb3.cell 2 rfl; have cb3_3 := kb3.cell 3 rfl; refine pl ?_; obtain ⟨NB, hNB⟩ : ∃ n, n = w3.heap.size := ⟨_, rfl⟩; have gNB := HB.out.gB hNB; have b3NB := oB qb3 hNB; have b4NB := oB qb4 hNB
 have hNB' : NB ≤ w3.heap.size := by omega
 clear hNB; obtain ⟨B11, hB11⟩ : ∃ b, b = w3.heap.size := ⟨_, rfl⟩; refine listF_step rfl (fun K' hK => ?_); unfold opF; go_simp; refine hK _ _ ?_; clear hK K'; refine listF_absw ?_; intro w6 hw'; have hzz := HB.out.size
 have hO7 : Own int1 1 3 NB w6 (Value.slice (some ⟨w3.heap.size, 0, none⟩) 1 1) (LL k lw 1) := by rw [hw', LL_one]; exact Own.lit (by omega) (by unfold maxLen; simp) rfl (fun _ => rfl)
 have hb7 : Below w3.heap.size w3 w6 := by rw [hw']; exact below_alloc1 _ _
 clear hw' hzz hNB'; rw [← hB11] at hO7
 (try rw [← hB11])
 clear hB11; clear cb3_0 cb3_1 cb3_2 cb3_3; clear qb3 qb4; replace kb3 := kb3.at hb7; replace kb4 := kb4.at hb7; replace HB := hid (HB.out.below hb7); clear hb7; have qb3 := kb3.1; have qb4 := kb4.1; refine pl ?_; refine listF_abs (fun s8 z' => ?_); replace sl2 := gs 2 z' sl2; replace sl3 := gs 3 z' sl3; replace sl4 := gs 4 z' sl4; have sl7 := gu 7 z'; clear z'; refine listF_nil ?_
 repeat ((fail_if_success refine stp ?_); with_reducible go_step)
 refine region_F ?_; refine pl ?_; refine listF_abs (fun s9 z' => ?_); replace sl2 := gs 2 z' sl2; replace sl3 := gs 3 z' sl3; replace sl4 := gs 4 z' sl4; replace sl7 := gs 7 z' sl7; have sl8 := gu 8 z'; clear z'; refine listF_nil ?_
 repeat ((fail_if_success refine stp ?_); with_reducible go_step)
 clear qb3 qb4; have hc0_2 := hid sl2; have hc0_3 := hid sl3; have hc0_4 := hid sl4; refine loop_F (n := 32) (fun kJ sJ wJ => ∃ (m : Nat) (b7 : Nat) (c7 : Nat), kJ = u - m + 1 ∧ sJ 7 = .slice (some ⟨b7, 0, none⟩) (m + 1) c7 ∧ sJ 8 = .int .i64 ((m : Int) + 1) ∧ sJ 2 = s9 2 ∧ sJ 3 = s9 3 ∧ sJ 4 = s9 4 ∧ OldB [] w wJ ∧ m ≤ u ∧ Cells wJ B3 [.int .i64 k.new, .int .i64 k.wear.lo, .int .i64 k.wear.hi, .slice a k.steps.length c] ∧ Cells wJ B4 [.slice ah nh ch, .slice av nv cv, .int .u16 x, .slice aw lw.length cw] ∧ Own int1 1 3 NB wJ (Value.slice (some ⟨b7, 0, none⟩) (m + 1) c7) (LL k lw (m + 1))) ⟨0, B11, 1, rfl, (by first | exact sl7 | (rw [sl7]; go_num) | (rw [sl7]; rfl)), (by first | exact sl8 | (rw [sl8]; go_num) | (rw [sl8]; rfl)), rfl, rfl, rfl, HB.out, Nat.zero_le _, kb3, kb4, hO7⟩ ?_; clear sl7 sl8 kb3 kb4 HB; rintro kJ s10 w11 ⟨m, b7, c7, rfl, sl7, sl8, e2, e3, e4, HB', hmu0, k3x, k4x, hO7⟩; replace sl2 := e2.trans sl2; clear e2
 replace sl3 := e3.trans sl3; clear e3; replace sl4 := e4.trans sl4; clear e4; have HB := hid HB'; clear HB'; have kb3 := k3x; clear k3x; have qb3 := kb3.1; have kb4 := k4x; clear k4x; have qb4 := kb4.1
 repeat ((fail_if_success refine stp ?_); with_reducible go_step)
 refine region_F ?_
 iterate 3 refine pl ?_
 refine listF_abs (fun s12 z' => ?_); replace sl2 := gs 2 z' sl2; replace sl3 := gs 3 z' sl3; replace sl4 := gs 4 z' sl4; replace sl7 := gs 7 z' sl7; replace sl8 := gs 8 z' sl8; have sl14 := gu 14 z'; clear z'; refine listF_nil ?_
 repeat ((fail_if_success refine stp ?_); with_reducible go_step)
 refine cond_E sl14 (by decide) ?_ ?_ <;> (clear sl14; intro h14 sl14)
 ·skip
  have hmu : m < u := by have h := h14; simp at h; omega
  repeat ((fail_if_success refine stp ?_); with_reducible go_step)
  have d0 := own_int hO7 (LL_get (k := k) (lw := lw) (i := m) (by omega)); have hb7 := (World.ownsRow.lt hO7 b7 rfl).2; have wm : IntKind.i64.wrap (m : Int) = (m : Int) := IntWalk.i64_in _ (by omega)
  have lm : (m : Int) < (m : Int) + 1 := by omega
  have cb3_0 := kb3.cell 0 rfl; have cb3_1 := kb3.cell 1 rfl; have cb3_2 := kb3.cell 2 rfl; have cb3_3 := kb3.cell 3 rfl; have cb4_0 := kb4.cell 0 rfl; have cb4_1 := kb4.cell 1 rfl; have cb4_2 := kb4.cell 2 rfl; have cb4_3 := kb4.cell 3 rfl; refine regionR_F [] [] [12] [.q [], .q [], .q [], .q [], .q [], .q [], .q [], .q [], .q [], .q [], .q [], .q [], .a] [?v21_0, ?v21_1, ?v21_2, ?v21_3, ?v21_4, ?v21_5, ?v21_6, ?v21_7, ?v21_8, ?v21_9, ?v21_10, ?v21_11, ?v21_12] [fun _ => [], fun _ => [], fun _ => [], fun _ => [], fun _ => [], fun _ => [], fun _ => [], fun _ => [], fun _ => [], fun _ => [], fun _ => [], fun _ => [], ?c21_12] (by kernel_rfl) (by kernel_rfl) (by kernel_rfl) (by kernel_rfl) (by kernel_rfl) (by first | exact List.nodup_nil | exact List.nodup_singleton _ | (simp; done) | (simp; omega)) bc_nil ?walk21 ?dep21
  case walk21 =>
   iterate 10 refine rq ?_
   refine walkR_q (by rfl) (fun X hX wq hwq hrq => ?_) ?_
   · obtain ⟨hcq, hfq⟩ := hwq.b0
     clear hrq; go_simp
     (with_reducible exact (wear_succ aw cw lw m _ hlw (by omega) (Rd.oldB HRw.out (HB.out.more hwq.unDrew (by simp; try omega)) (by simp))))
   refine walkR_q (by rfl) (fun X hX wq hwq hrq => ?_) ?_
   · obtain ⟨hcq, hfq⟩ := hwq.b0
     clear hrq; go_simp
     (with_reducible exact (worn_step k a c lw m _ HK.out HU.out))
   refine walkR_a (by rfl) (fun X hX wq hwq hsq => ?_) ?_
   · go_simp
     refine newB_mk ?_ ?_
     · rfl
     · rfl
   refine walkR_nil (fun X hX w13 hwz hcz => ?_); have ka12 := hcz 12 (by simp)
   simp only [updC_some, updC_none, Nat.reduceEqDiff, ↓reduceIte] at ka12
   have la12 := hX.lo 12 rfl; clear hX hcz
   generalize X 12 = J12 at *
   (try clear X)
   skip; have hb14 := hwz.unDrew; clear hwz; have gJ := HB.out.size; replace la12 : w11.heap.size ≤ J12 := la12
   have ob3_J12 : B3 < J12 := by have := qb3; omega
   have ob4_J12 : B4 < J12 := by have := qb4; omega
   have nhO7_b29 : ∀ g, (Value.slice (some ⟨b7, 0, none⟩) (m + 1) c7).ownBlock = some g → g < J12 := fun g hg => by have := (World.ownsRow.lt hO7 g hg).2; omega
   clear cb3_0 cb3_1 cb3_2 cb3_3 cb4_0 cb4_1 cb4_2 cb4_3; clear qb3 qb4; replace kb3 := kb3.oldB hb14 (by first | (simp; done) | (simp; omega)); replace kb4 := kb4.oldB hb14 (by first | (simp; done) | (simp; omega)); replace hO7 := Own.oldB hO7 hb14 (fun g hg => by have n0 := (World.ownsRow.lt hO7 g hg).1; have nb29 := nhO7_b29 g hg; first | (simp; done) | (simp; omega)); replace HB := hid (HB.out.more hb14 (by simp; try omega)); clear hb14; have qb3 := kb3.1; have qb4 := kb4.1
   have gb29 : w.heap.size ≤ J12 := by omega
   have kb29 := ka12; clear ka12; have qb29 := kb29.1; have hlz := World.ownsRow.lt hO7 b7 rfl
   have ab3 : (Value.slice (some ⟨b7, 0, none⟩) (m + 1) c7).ownBlock ≠ some B3 := fun e => by have n0 := (World.ownsRow.lt hO7 B3 e).1; omega
   have ab4 : (Value.slice (some ⟨b7, 0, none⟩) (m + 1) c7).ownBlock ≠ some B4 := fun e => by have n0 := (World.ownsRow.lt hO7 B4 e).1; omega
   have ab29 : (Value.slice (some ⟨b7, 0, none⟩) (m + 1) c7).ownBlock ≠ some J12 := fun e => by have n0 := (World.ownsRow.lt hO7 J12 e).1; have n9 := nhO7_b29 J12 e; omega
   have hzz := HB.out.size; refine listF_step rfl (fun K' hK => ?_); refine opF_app (d := 30) rfl (by decide) (.tmp 17) (.tmp 29) _ rfl 3 i1 _ 8 Try.underlying47 hi1 hz1 hy1 hx1 rfl (by decide) (fun _ => rfl) int_one NB (Value.slice (some ⟨b7, 0, none⟩) (m + 1) c7) (LL k lw (m + 1)) [(strS k lw (m + 1))] (some ⟨J12, 0, none⟩) 1 (by go_simp) (by go_simp) hO7 (Cells.rd (f := int1) (m := 1) (l := [(strS k lw (m + 1))]) (fun _ => rfl) kb29) (by unfold maxLen; rw [LL_len]; simp; omega) (by rw [LL_len]; simp; omega) (by omega) (fun v30 w15 hO' hG hV => hK _ _ ?_); clear hK K' hzz; clear qb3 qb4 qb29; replace kb3 := kb3.grown hG ab3; clear ab3; replace kb4 := kb4.grown hG ab4; clear ab4; replace kb29 := kb29.grown hG ab29; clear ab29; replace HB := hid (HB.out.grown hG (fun k hk => .inl (by have := (World.ownsRow.lt hO7 k hk).1; omega))); clear hO7; have hO7 := hO'; clear hO' hG hV; clear nhO7_b29; have qb3 := kb3.1; have qb4 := kb4.1
   have qb29 := kb29.1; rw [← LL_succ] at hO7; obtain ⟨b30, c30, rfl⟩ := own_ne hO7 (by intro e; have := congrArg List.length e; rw [LL_len] at this; simp at this); rw [LL_len] at hO7 ⊢; refine pl ?_; refine listF_abs (fun s16 z' => ?_); replace sl2 := gs 2 z' sl2; replace sl3 := gs 3 z' sl3; replace sl4 := gs 4 z' sl4; replace sl7 := gu 7 z'; replace sl8 := gs 8 z' sl8; clear z' sl14; refine listF_nil ?_
   repeat ((fail_if_success refine stp ?_); with_reducible go_step)
   refine region_F ?_
   iterate 3 refine pl ?_
   refine listF_abs (fun s17 z' => ?_); replace sl2 := gs 2 z' sl2; replace sl3 := gs 3 z' sl3; replace sl4 := gs 4 z' sl4; replace sl7 := gs 7 z' sl7; replace sl8 := gu 8 z'; clear z'; refine listF_nil ?_
   repeat ((fail_if_success refine stp ?_); with_reducible go_step)
   refine ⟨_, _, rfl, ?_, m + 1, b30, c30, rfl, (by first | (with_reducible exact sl7) | (rw [sl7]; (with_reducible go_num); done) | (rw [sl7, IntWalk.i64_in] <;> first | ((with_reducible go_num); done) | omega) | (rw [sl7]; go_num; done) | (rw [sl7]; simp; done) | (rw [sl7]; simp; omega)), (by first | (with_reducible exact sl8) | (rw [sl8]; (with_reducible go_num); done) | (rw [sl8, IntWalk.i64_in] <;> first | ((with_reducible go_num); done) | omega) | (rw [sl8]; go_num; done) | (rw [sl8]; simp; done) | (rw [sl8]; simp; omega)), (sl2.trans hc0_2.out.symm), (sl3.trans hc0_3.out.symm), (sl4.trans hc0_4.out.symm), HB.out, by omega, kb3, kb4, hO7⟩
   omega
  case dep21 =>
    iterate 12 refine dR ?_
    refine depR_cons (fun X X' h => ?_) ?_
    · (first | exact ⟨rfl, rfl⟩ | (have e12 := h 12 (by decide +kernel); constructor <;> (first | rfl | (simp only [e12]))))
    exact depR_nil
 ·skip
  have hmu : m = u := by have h := h14; simp at h; omega
  subst hmu
  repeat ((fail_if_success refine stp ?_); with_reducible go_step)
  clear hc0_2 hc0_3 hc0_4; refine region_F ?_; refine pl ?_; refine pl ?_; refine listF_abs (fun s18 z' => ?_); have sl6 := gu 6 z'; clear z' sl2 sl3 sl4 sl7 sl8 sl14; refine listF_nil ?_
  repeat ((fail_if_success refine stp ?_); with_reducible go_step)
  refine ret_F _ (res_t Try.results41 ((getD_F (by decide)).trans sl6)) ?_; exact ⟨b7, c7, rfl, Own.base hO7 gNB, HB.out.toBelow⟩


theorem lived_any (k : Kd) (a : Option Addr) (c : Nat) (ah av : Option Addr) (nh ch nv cv : Nat) (x : Int) (aw : Option Addr) (cw : Nat) (lw : List Int) (u : Nat) (w : World) (hK : KOk k) (hRw : RdU w aw lw) (hlw : lw.length ≤ 9223372036854775807) (hU : U16 lw) (hu : u ≤ 99998) :
    Calls Try.prog 41 #[.agg #[.int .i64 k.new, .int .i64 k.wear.lo, .int .i64 k.wear.hi, .slice a k.steps.length c], .agg #[.slice ah nh ch, .slice av nv cv, .int .u16 x, .slice aw lw.length cw], .int .i64 (u : Int)] w (LivedRes k lw u w) :=
  (lived_own k a c ah av nh ch nv cv x aw cw lw u w hK hRw hlw hU hu).mono fun e w' ⟨b, c, h1, h2, h3⟩ => ⟨b, c, h1, Own.toCells h2, (World.ownsRow.lt h2 b rfl).1, h3⟩
end

section
open Go.RowKit


def leastV (k : Kd) : Int := (k.steps.getD (k.steps.length - 1) Stp.zero).volt
def ckH (lh : List Int) (u i : Nat) : Nat := (lh.getD i 0).toNat % (u + 1)
def ckV (k : Kd) (lv : List Int) (i : Nat) : Int := leastV k + wearAt lv i % (1000 - leastV k + 1)
/-- a check as it comes out -/
def ckA (k : Kd) (lh lv : List Int) (u : Nat) (ls : List Int) (i : Nat) : MCk := ⟨(ckH lh u i : Int), ckV k lv i, decide (needed k (ckV k lv i) ≤ ls.getD (ckH lh u i) 0)⟩
def mkL (k : Kd) (lh lv : List Int) (u : Nat) (ls : List Int) (n : Nat) : List MCk := (List.range n).map (ckA k lh lv u ls)
theorem mkL_len {k : Kd} {lh lv : List Int} {u : Nat} {ls : List Int} {n : Nat} : (mkL k lh lv u ls n).length = n := by simp [mkL]
theorem mkL_succ {k : Kd} {lh lv : List Int} {u : Nat} {ls : List Int} {n : Nat} : mkL k lh lv u ls (n + 1) = mkL k lh lv u ls n ++ [ckA k lh lv u ls n] := by simp [mkL, List.range_succ]
theorem least_bd {k : Kd} (hK : KOk k) : 0 ≤ leastV k ∧ leastV k ≤ 1000 := by
  unfold leastV; rw [getD_get (show k.steps.length - 1 < k.steps.length by have := hK.l0; omega)]; exact (hK.st _ _).1
theorem ckV_bd {k : Kd} (hK : KOk k) {lv : List Int} (i : Nat) : leastV k ≤ ckV k lv i ∧ ckV k lv i ≤ 1000 := by
  have hb := least_bd hK; have h2 := Int.emod_nonneg (wearAt lv i) (b := 1000 - leastV k + 1) (by omega); have h3 := Int.emod_lt_of_pos (wearAt lv i) (b := 1000 - leastV k + 1) (by omega); unfold ckV
  omega
theorem ckV_ok {k : Kd} (hK : KOk k) {lv : List Int} (i : Nat) : voltOk k (ckV k lv i) = true := by
  have := ckV_bd hK (lv := lv) i; unfold voltOk; rw [inb_iff]; exact this
theorem ckH_mod {lh : List Int} {u i : Nat} (hi : i < lh.length) (hU : U16 lh) : (lh[i]).tmod ((u : Int) + 1) = (ckH lh u i : Int) ∧ ckH lh u i < u + 1 := by
  have h0 := hU _ (List.getElem_mem hi); unfold ckH; rw [getD_get hi]; refine ⟨?_, Nat.mod_lt _ (by omega)⟩; obtain ⟨y, hy⟩ := Int.eq_ofNat_of_zero_le h0.1; rw [hy]; exact (Int.ofNat_tmod _ _).symm
theorem made_ok {k : Kd} (hK : KOk k) {lh lv lw : List Int} {u n N : Nat} (hu : u < N) (hu2 : u ≤ 100000) : ∀ c ∈ mkL k lh lv u (LL k lw N) n, Agrees k (strS k lw) c ∧ chkOk k c = true ∧ c.hour ≤ u := by
  intro c hc; obtain ⟨i, _, rfl⟩ := List.mem_map.1 hc; have hm : ckH lh u i < u + 1 := Nat.mod_lt _ (by omega); refine ⟨⟨ckH lh u i, rfl, ?_⟩, ?_, ?_⟩
  · show decide (_ ≤ (LL k lw N).getD _ 0) = _
    rw [List.getD_eq_getElem?_getD, LL_get (by omega)]; rfl
  · unfold chkOk
    rw [Bool.and_eq_true, inb_iff]; exact ⟨⟨by show (0 : Int) ≤ (ckH lh u i : Int); omega, by show (ckH lh u i : Int) ≤ 100000; omega⟩, ckV_ok hK i⟩
  · show (ckH lh u i : Int) ≤ u
    omega
def MadeRes (k : Kd) (lh lv : List Int) (u : Nat) (ls : List Int) (w : World) (e : Ending) (w' : World) : Prop := ∃ a c l, l = mkL k lh lv u ls (min lh.length 30) ∧ e = .returned (.slice a l.length c) ∧ Own MCk.cs 3 74 w.heap.size w' (Value.slice a l.length c) l ∧ Below w.heap.size w w'

set_option maxRecDepth 100000 in
set_option maxHeartbeats 8000000 in
theorem made_any (k : Kd) (a : Option Addr) (c : Nat) (ah av : Option Addr) (ch cv : Nat) (lh lv : List Int) (x : Int) (aw : Option Addr) (nw cw : Nat) (as_ : Option Addr) (cs_ : Nat) (ls : List Int) (u : Nat) (w : World) (hK : KOk k) (hR : RdSteps w a k.steps) (hRh : RdU w ah lh) (hlh : lh.length ≤ 9223372036854775807) (hUh : U16 lh) (hRv : RdU w av lv) (hlv : lv.length ≤ 9223372036854775807) (hUv : U16 lv) (hRs : RdInts w as_ ls) (hus : u < ls.length) (hu : u ≤ 99998) :
    Calls Try.prog 42 #[.agg #[.int .i64 k.new, .int .i64 k.wear.lo, .int .i64 k.wear.hi, .slice a k.steps.length c], .agg #[.slice ah lh.length ch, .slice av lv.length cv, .int .u16 x, .slice aw nw cw], .slice as_ ls.length cs_, .int .i64 (u : Int)] w (MadeRes k lh lv u ls w) := by
 have HK := hid hK; have HR := hid hR; have HRh := hid hRh; have HRv := hid hRv; have HRs := hid hRs; have HUh := hid hUh; have HUv := hid hUv; clear hK hR hRh hRv hRs hUh hUv; obtain ⟨i0, hi0, hz0, hy0, hx0⟩ := info_parts info_cloneCk
 refine enter_F Try.func42 rfl Try.ntmps42 (by simp) ?_
 intro s0 hs; have sl0 : s0 0 = .agg #[.int .i64 k.new, .int .i64 k.wear.lo, .int .i64 k.wear.hi, .slice a k.steps.length c] := hs 0 (by simp); have sl1 : s0 1 = .agg #[.slice ah lh.length ch, .slice av lv.length cv, .int .u16 x, .slice aw nw cw] := hs 1 (by simp); have sl2 : s0 2 = .slice as_ ls.length cs_ := hs 2 (by simp); have sl3 : s0 3 = .int .i64 (u : Int) := hs 3 (by simp); clear hs; have HB := hid (OldB.refl [] w)
 repeat ((fail_if_success refine stp ?_); with_reducible go_step)
 refine region_F ?_; refine pa (fun w1 B4 hB kb4' hb2 => ?_); have gb4 := HB.out.gB hB; have eb4 := eB hB; clear hB; replace HB := hid (HB.out.below hb2); clear hb2; have kb4 := kb4'; clear kb4'; have qb4 := kb4.1; refine pa (fun w3 B5 hB kb5' hb4 => ?_); have gb5 := HB.out.gB hB; have ob4_b5 := oB qb4 hB; have eb5 := eB hB; clear hB; clear qb4; replace kb4 := kb4.at hb4; replace HB := hid (HB.out.below hb4); clear hb4; have qb4 := kb4.1; have kb5 := kb5'; clear kb5'; have qb5 := kb5.1; refine pl ?_; refine listF_abs (fun s5 z' => ?_); replace sl2 := gs 2 z' sl2; replace sl3 := gs 3 z' sl3; have sl4 := gu 4 z'; have sl5 := gu 5 z'; clear z' sl0 sl1; refine listF_nil ?_
 repeat ((fail_if_success refine stp ?_); with_reducible go_step)
 refine region_F ?_; refine pl ?_; refine listF_abs (fun s6 z' => ?_); replace sl2 := gs 2 z' sl2; replace sl3 := gs 3 z' sl3; replace sl4 := gs 4 z' sl4; replace sl5 := gs 5 z' sl5; have sl9 := gu 9 z'; clear z'; refine listF_nil ?_
 repeat ((fail_if_success refine stp ?_); with_reducible go_step)
 refine region_F ?_; obtain ⟨m, hm⟩ : ∃ m, k.steps.length = m + 1 := ⟨k.steps.length - 1, by have := HK.out.l0; omega⟩; have hsl := HK.out.l1
 have hlt : m < k.steps.length := by omega
 have hm8 : m ≤ 7 := by omega
 have hm9 : (m : Int) < (m : Int) + 1 := by omega
 have hwm : IntKind.i64.wrap (m : Int) = m := IntWalk.i64_in _ (by omega); refine pl ?_; have cb4_0 := kb4.cell 0 rfl; have cb4_1 := kb4.cell 1 rfl; have cb4_2 := kb4.cell 2 rfl; have cb4_3 := kb4.cell 3 rfl
 iterate 5 refine pl ?_
 obtain ⟨b, off, rfl, hbs, c0, c1⟩ := RdSteps.ne (Rd.oldB HR.out HB.out (by simp)) hlt; obtain ⟨q, hq⟩ : ∃ q, k.steps[m].volt = q := ⟨_, rfl⟩; rw [hq] at c0; have Hq := hid (show leastV k = q by unfold leastV; simp only [hm, Nat.add_sub_cancel]; rw [getD_get hlt]; exact hq); clear hq
 iterate 4 refine pl ?_
 refine listF_abs (fun s7 z' => ?_); replace sl2 := gs 2 z' sl2; replace sl3 := gs 3 z' sl3; replace sl4 := gs 4 z' sl4; replace sl5 := gs 5 z' sl5; replace sl9 := gs 9 z' sl9; have sl10 := gu 10 z'; clear z'; refine listF_nil ?_
 repeat ((fail_if_success refine stp ?_); with_reducible go_step)
 refine region_F ?_; clear hm hlt hm8 hm9 hwm hbs c0 c1; have hq0 := least_bd HK.out; rw [Hq.out] at hq0; have wq1 : IntKind.i64.wrap (1000 - q) = 1000 - q := IntWalk.i64_in _ (by omega); have wq2 : IntKind.i64.wrap (1000 - q + 1) = 1000 - q + 1 := IntWalk.i64_in _ (by omega)
 have zq : ¬ 1000 - q + 1 = 0 := by omega
 have wu : IntKind.i64.wrap ((u : Int) + 1) = (u : Int) + 1 := IntWalk.i64_in _ (by omega)
 have zu : ¬ (u : Int) + 1 = 0 := by omega
 obtain ⟨NB, hNB⟩ : ∃ n, n = w3.heap.size := ⟨_, rfl⟩; have gNB := HB.out.gB hNB; have b4NB := oB qb4 hNB; have b5NB := oB qb5 hNB
 have hNB0 : NB ≤ w3.heap.size := by omega
 clear hNB; refine pl ?_; refine listF_abs (fun s8 z' => ?_); replace sl2 := gs 2 z' sl2; replace sl3 := gs 3 z' sl3; replace sl4 := gs 4 z' sl4; replace sl5 := gs 5 z' sl5; replace sl9 := gs 9 z' sl9; replace sl10 := gs 10 z' sl10; have sl11 := gu 11 z'; clear z'; refine listF_nil ?_
 repeat ((fail_if_success refine stp ?_); with_reducible go_step)
 clear cb4_0 cb4_1 cb4_2 cb4_3; clear qb4 qb5; have hc0_2 := hid sl2; have hc0_3 := hid sl3; have hc0_4 := hid sl4; have hc0_5 := hid sl5; have hc0_10 := hid sl10; refine loop_F (n := 69) (fun kJ sJ wJ => ∃ (i : Nat) (a9 : Option Addr) (c9 : Nat), kJ = 30 - i + 1 ∧ sJ 9 = .slice a9 i c9 ∧ sJ 11 = .int .i64 (i : Int) ∧ sJ 2 = s8 2 ∧ sJ 3 = s8 3 ∧ sJ 4 = s8 4 ∧ sJ 5 = s8 5 ∧ sJ 10 = s8 10 ∧ OldB [] w wJ ∧ (i ≤ 30 ∧ i ≤ lh.length) ∧ Own MCk.cs 3 74 NB wJ (Value.slice a9 i c9) (mkL k lh lv u ls i) ∧ NB ≤ wJ.heap.size ∧ Cells wJ B4 [.int .i64 k.new, .int .i64 k.wear.lo, .int .i64 k.wear.hi, .slice (some ⟨b, off, none⟩) k.steps.length c] ∧ Cells wJ B5 [.slice ah lh.length ch, .slice av lv.length cv, .int .u16 x, .slice aw nw cw]) ⟨0, none, 0, rfl, (by first | exact sl9 | (rw [sl9]; go_num) | (rw [sl9]; rfl)), (by first | exact sl11 | (rw [sl11]; go_num) | (rw [sl11]; rfl)), rfl, rfl, rfl, rfl, rfl, HB.out, ⟨by omega, by omega⟩, Own.nil _ _ _ _ _, hNB0, kb4, kb5⟩ ?_
 clear sl9 sl11 kb4 kb5 HB; rintro kJ s9 w10 ⟨i, a9, c9, rfl, sl9, sl11, e2, e3, e4, e5, e10, HB', hi30, hO9, hNBw, k4x, k5x⟩; replace sl2 := e2.trans sl2; clear e2; replace sl3 := e3.trans sl3; clear e3; replace sl4 := e4.trans sl4; clear e4; replace sl5 := e5.trans sl5; clear e5; replace sl10 := e10.trans sl10; clear e10; have HB := hid HB'; clear HB'; have kb4 := k4x; clear k4x; have qb4 := kb4.1; have kb5 := k5x; clear k5x; have qb5 := kb5.1; have ii := IntWalk.i64_in (i : Int) (by omega)
 repeat ((fail_if_success refine stp ?_); with_reducible go_step)
 refine region_F ?_; refine pl ?_; refine pl ?_; have cb5_0 := kb5.cell 0 rfl; have cb5_1 := kb5.cell 1 rfl; have cb5_2 := kb5.cell 2 rfl; have cb5_3 := kb5.cell 3 rfl
 iterate 4 refine pl ?_
 refine listF_abs (fun s11 z' => ?_); replace sl2 := gs 2 z' sl2; replace sl3 := gs 3 z' sl3; replace sl4 := gs 4 z' sl4; replace sl5 := gs 5 z' sl5; replace sl9 := gs 9 z' sl9; replace sl10 := gs 10 z' sl10; replace sl11 := gs 11 z' sl11; have sl28 := gu 28 z'; clear z'
 refine boolG sl28 (fun sl28' h28 => ?_) (fun sl28' h28 => ?_) <;> (clear sl28; have sl28 := sl28'; clear sl28')
 ·skip
  have hi : i < lh.length := by simpa using h28
  refine py ?_; refine py ?_; refine pl ?_; refine listF_abs (fun s12 z' => ?_); replace sl2 := gs 2 z' sl2; replace sl3 := gs 3 z' sl3; replace sl4 := gs 4 z' sl4; replace sl5 := gs 5 z' sl5; replace sl9 := gs 9 z' sl9; replace sl10 := gs 10 z' sl10; replace sl11 := gs 11 z' sl11; have sl29 := gu 29 z'; have sl30 := gu 30 z'; have sl31 := gu 31 z'; clear z' sl28; refine listF_nil ?_
  repeat ((fail_if_success refine stp ?_); with_reducible go_step)
  refine cond_E sl31 (by decide) ?_ ?_ <;> (clear sl31; intro h31 sl31)
  ·skip
   have hi3 : i < 30 := by have h := h31; simp at h; omega
   have hii : (i : Int) < lh.length := by omega
   obtain ⟨bh, oh, rfl, hbh, cH⟩ := RdU.ne (Rd.oldB HRh.out HB.out (by simp)) hi; obtain ⟨hm1, hm2⟩ := ckH_mod (u := u) hi HUh.out; have hy := HUh.out _ (List.getElem_mem hi); obtain ⟨y, hyd⟩ : ∃ y, lh[i] = y := ⟨_, rfl⟩; rw [hyd] at cH hm1 hy; have wy := u16_wrap hy; obtain ⟨hn, hnd⟩ : ∃ q, ckH lh u i = q := ⟨_, rfl⟩; rw [hnd] at hm1 hm2; have Hnd := hid hnd; clear hyd hnd; have wn : IntKind.i64.wrap (hn : Int) = (hn : Int) := IntWalk.i64_in _ (by omega); have hv1 := wearAt_bd HUv.out i; have hv2 := ckV_bd HK.out (lv := lv) i; have hv3 := ckV_ok HK.out (lv := lv) i; obtain ⟨V, hVd⟩ : ∃ V, ckV k lv i = V := ⟨_, rfl⟩
   have hV2 : V = q + wearAt lv i % (1000 - q + 1) := by rw [← hVd, ← Hq.out]; rfl
   rw [hVd] at hv2 hv3; have HVd := hid hVd; have Hv3 := hid hv3; clear hVd hv3; obtain ⟨W, hWd⟩ : ∃ W, wearAt lv i = W := ⟨_, rfl⟩; rw [hWd] at hv1 hV2; have HWd := hid hWd; clear hWd; have wW := u16_wrap hv1; have tW : W.tmod (1000 - q + 1) = W % (1000 - q + 1) := Int.tmod_eq_emod_of_nonneg hv1.1; obtain ⟨r, hr⟩ : ∃ r, W % (1000 - q + 1) = r := ⟨_, rfl⟩; rw [hr] at tW hV2; rw [Hq.out] at hv2; have wr : IntKind.i64.wrap r = r := IntWalk.i64_in _ (by omega)
   have wV : IntKind.i64.wrap (q + r) = V := by rw [IntWalk.i64_in _ (by omega)]; exact hV2.symm
   have HV2 := hid hV2; clear hr hV2
   repeat ((fail_if_success refine stp ?_); with_reducible go_step)
   have hWd := HWd.out; have cb4_0 := kb4.cell 0 rfl; have cb4_1 := kb4.cell 1 rfl; have cb4_2 := kb4.cell 2 rfl; have cb4_3 := kb4.cell 3 rfl; refine regionR_F [] [] [] [.q [], .q [], .q [], .q [], .q [], .q [], .q [], .q [], .q [], .q [], .q [], .q [], .q [], .q [], .q [], .q [], .q [], .q [], .q [], .q [], .q []] [?v22_0, ?v22_1, ?v22_2, ?v22_3, ?v22_4, ?v22_5, ?v22_6, ?v22_7, ?v22_8, ?v22_9, ?v22_10, ?v22_11, ?v22_12, ?v22_13, ?v22_14, ?v22_15, ?v22_16, ?v22_17, ?v22_18, ?v22_19, ?v22_20] [fun _ => [], fun _ => [], fun _ => [], fun _ => [], fun _ => [], fun _ => [], fun _ => [], fun _ => [], fun _ => [], fun _ => [], fun _ => [], fun _ => [], fun _ => [], fun _ => [], fun _ => [], fun _ => [], fun _ => [], fun _ => [], fun _ => [], fun _ => [], fun _ => []] (by kernel_rfl) (by kernel_rfl) (by kernel_rfl) (by kernel_rfl) (by kernel_rfl) (by first | exact List.nodup_nil | exact List.nodup_singleton _ | (simp; done) | (simp; omega)) bc_nil ?walk22 ?dep22
   case walk22 =>
    iterate 13 refine rq ?_
    refine walkR_q (by rfl) (fun X hX wq hwq hrq => ?_) ?_
    · obtain ⟨hcq, hfq⟩ := hwq.b0
      clear hrq; go_simp
      (with_reducible exact (wear_any av cv lv i _ hlv (by omega) (Rd.oldB HRv.out (HB.out.more hwq.unDrew (by simp; try omega)) (by simp))))
    iterate 7 refine rq ?_
    refine walkR_nil (fun X hX w13 hwz hcz => ?_); clear hX hcz
    (try clear X)
    skip; have hb14 := hwz.unDrew; clear hwz; clear cb4_0 cb4_1 cb4_2 cb4_3 cb5_0 cb5_1 cb5_2 cb5_3; clear qb4 qb5; replace kb4 := kb4.oldB hb14 (by first | (simp; done) | (simp; omega)); replace kb5 := kb5.oldB hb14 (by first | (simp; done) | (simp; omega)); replace hNBw := Nat.le_trans hNBw hb14.size; replace hO9 := Own.oldB hO9 hb14 (fun g hg => by have n0 := (World.ownsRow.lt hO9 g hg).1; first | (simp; done) | (simp; omega)); replace HB := hid (HB.out.more hb14 (by simp; try omega)); clear hb14; have qb4 := kb4.1; have qb5 := kb5.1; refine pl ?_; refine listF_abs (fun s15 z' => ?_); replace sl2 := gs 2 z' sl2; replace sl3 := gs 3 z' sl3; replace sl4 := gs 4 z' sl4; replace sl5 := gs 5 z' sl5; replace sl9 := gs 9 z' sl9; replace sl10 := gs 10 z' sl10; replace sl11 := gs 11 z' sl11; have sl12 := gu 12 z'; have sl13 := gu 13 z'; replace sl29 := gs 29 z' sl29; replace sl30 := gs 30 z' sl30; clear z' sl31; refine listF_nil ?_
    repeat ((fail_if_success refine stp ?_); with_reducible go_step)
    clear hWd; obtain ⟨bs, os, rfl, hbs, cS⟩ := RdInts.ne (Rd.oldB HRs.out HB.out (by simp)) (show hn < ls.length by omega)
    have hnn : (hn : Int) < ls.length := by omega
    have cb4_0 := kb4.cell 0 rfl; have cb4_1 := kb4.cell 1 rfl; have cb4_2 := kb4.cell 2 rfl; have cb4_3 := kb4.cell 3 rfl; have cb5_0 := kb5.cell 0 rfl; have cb5_1 := kb5.cell 1 rfl; have cb5_2 := kb5.cell 2 rfl; have cb5_3 := kb5.cell 3 rfl; refine regionR_F [] [] [12] [.q [], .q [], .q [], .q [], .q [], .q [], .q [], .q [], .q [], .q [], .q [], .q [], .a] [?v23_0, ?v23_1, ?v23_2, ?v23_3, ?v23_4, ?v23_5, ?v23_6, ?v23_7, ?v23_8, ?v23_9, ?v23_10, ?v23_11, ?v23_12] [fun _ => [], fun _ => [], fun _ => [], fun _ => [], fun _ => [], fun _ => [], fun _ => [], fun _ => [], fun _ => [], fun _ => [], fun _ => [], fun _ => [], ?c23_12] (by kernel_rfl) (by kernel_rfl) (by kernel_rfl) (by kernel_rfl) (by kernel_rfl) (by first | exact List.nodup_nil | exact List.nodup_singleton _ | (simp; done) | (simp; omega)) bc_nil ?walk23 ?dep23
    case walk23 =>
     iterate 9 refine rq ?_
     refine walkR_q (by rfl) (fun X hX wq hwq hrq => ?_) ?_
     · obtain ⟨hcq, hfq⟩ := hwq.b0
       clear hrq; go_simp
       (with_reducible exact (rneeded_any k (some ⟨b, off, none⟩) c V _ (Rd.oldB HR.out (HB.out.more hwq.unDrew (by simp; try omega)) (by simp)) HK.out Hv3.out))
     refine rq ?_; refine rq ?_; refine walkR_a (by rfl) (fun X hX wq hwq hsq => ?_) ?_
     · go_simp
       refine newB_mk ?_ ?_
       · rfl
       · rfl
     refine walkR_nil (fun X hX w16 hwz hcz => ?_); have ka12 := hcz 12 (by simp)
     simp only [updC_some, updC_none, Nat.reduceEqDiff, ↓reduceIte] at ka12
     have la12 := hX.lo 12 rfl; clear hX hcz
     generalize X 12 = J12 at *
     (try clear X)
     skip; have hb17 := hwz.unDrew; clear hwz; have gJ := HB.out.size; replace la12 : w13.heap.size ≤ J12 := la12
     have ob4_J12 : B4 < J12 := by have := qb4; omega
     have ob5_J12 : B5 < J12 := by have := qb5; omega
     have nhO9_b66 : ∀ g, (Value.slice a9 i c9).ownBlock = some g → g < J12 := fun g hg => by have := (World.ownsRow.lt hO9 g hg).2; omega
     clear cb4_0 cb4_1 cb4_2 cb4_3 cb5_0 cb5_1 cb5_2 cb5_3; clear qb4 qb5; replace kb4 := kb4.oldB hb17 (by first | (simp; done) | (simp; omega)); replace kb5 := kb5.oldB hb17 (by first | (simp; done) | (simp; omega)); replace hNBw := Nat.le_trans hNBw hb17.size; replace hO9 := Own.oldB hO9 hb17 (fun g hg => by have n0 := (World.ownsRow.lt hO9 g hg).1; have nb66 := nhO9_b66 g hg; first | (simp; done) | (simp; omega)); replace HB := hid (HB.out.more hb17 (by simp; try omega)); clear hb17; have qb4 := kb4.1; have qb5 := kb5.1
     have gb66 : w.heap.size ≤ J12 := by omega
     have kb66 := ka12; clear ka12; have qb66 := kb66.1
     have ab4 : (Value.slice a9 i c9).ownBlock ≠ some B4 := fun e => by have n0 := (World.ownsRow.lt hO9 B4 e).1; omega
     have ab5 : (Value.slice a9 i c9).ownBlock ≠ some B5 := fun e => by have n0 := (World.ownsRow.lt hO9 B5 e).1; omega
     have ab66 : (Value.slice a9 i c9).ownBlock ≠ some J12 := fun e => by have n0 := (World.ownsRow.lt hO9 J12 e).1; have n9 := nhO9_b66 J12 e; omega
     have hzz := HB.out.size; refine listF_step rfl (fun K' hK => ?_); refine opF_app (d := 67) rfl (by decide) (.tmp 54) (.tmp 66) _ rfl 74 i0 _ 24 Try.underlying33 hi0 hz0 hy0 hx0 rfl (by decide) (fun _ => rfl) ck_one NB (Value.slice a9 i c9) (mkL k lh lv u ls i) [(⟨(hn : Int), V, decide (needed k V ≤ ls[hn])⟩ : MCk)] (some ⟨J12, 0, none⟩) 1 (by go_simp) (by go_simp) hO9 (Cells.rd (f := MCk.cs) (m := 3) (l := [(⟨(hn : Int), V, decide (needed k V ≤ ls[hn])⟩ : MCk)]) (fun _ => rfl) kb66) (by unfold maxLen; rw [mkL_len]; simp; omega) (by rw [mkL_len]; simp; omega) (by omega) (fun v67 w18 hO' hG hV => hK _ _ ?_); clear hK K' hzz; clear qb4 qb5 qb66; replace kb4 := kb4.grown hG ab4; clear ab4; replace kb5 := kb5.grown hG ab5; clear ab5; replace kb66 := kb66.grown hG ab66; clear ab66; replace hNBw := Nat.le_trans hNBw hG.size; replace HB := hid (HB.out.grown hG (fun k hk => .inl (by have := (World.ownsRow.lt hO9 k hk).1; omega)))
     clear hO9; have hO9 := hO'; clear hO' hG hV; clear nhO9_b66; have qb4 := kb4.1; have qb5 := kb5.1; have qb66 := kb66.1
     have ex : (⟨(hn : Int), V, decide (needed k V ≤ ls[hn])⟩ : MCk) = ckA k lh lv u ls i := by unfold ckA; rw [Hnd.out, HVd.out, getD_get (show hn < ls.length by omega)]
     rw [ex, ← mkL_succ] at hO9; obtain ⟨a9', c9', rfl, hr9, hn9⟩ := Own.slice (f := MCk.cs) (m := 3) (fun _ => rfl) hO9; clear hr9 hn9 ex; rw [mkL_len] at hO9 ⊢; refine pl ?_; refine listF_abs (fun s19 z' => ?_); replace sl2 := gs 2 z' sl2; replace sl3 := gs 3 z' sl3; replace sl4 := gs 4 z' sl4; replace sl5 := gs 5 z' sl5; replace sl9 := gu 9 z'; replace sl10 := gs 10 z' sl10; replace sl11 := gs 11 z' sl11; replace sl29 := gs 29 z' sl29; replace sl30 := gs 30 z' sl30; clear z' sl12 sl13; refine listF_nil ?_
     repeat ((fail_if_success refine stp ?_); with_reducible go_step)
     refine region_F ?_
     iterate 3 refine pl ?_
     refine listF_abs (fun s20 z' => ?_); replace sl2 := gs 2 z' sl2; replace sl3 := gs 3 z' sl3; replace sl4 := gs 4 z' sl4; replace sl5 := gs 5 z' sl5; replace sl9 := gs 9 z' sl9; replace sl10 := gs 10 z' sl10; replace sl11 := gu 11 z'; replace sl29 := gs 29 z' sl29; replace sl30 := gs 30 z' sl30; clear z'; refine listF_nil ?_
     repeat ((fail_if_success refine stp ?_); with_reducible go_step)
     refine ⟨_, _, rfl, ?_, i + 1, a9', c9', rfl, (by first | (with_reducible exact sl9) | (rw [sl9]; (with_reducible go_num); done) | (rw [sl9, IntWalk.i64_in] <;> first | ((with_reducible go_num); done) | omega) | (rw [sl9]; go_num; done) | (rw [sl9]; simp; done) | (rw [sl9]; simp; omega)), (by first | (with_reducible exact sl11) | (rw [sl11]; (with_reducible go_num); done) | (rw [sl11, IntWalk.i64_in] <;> first | ((with_reducible go_num); done) | omega) | (rw [sl11]; go_num; done) | (rw [sl11]; simp; done) | (rw [sl11]; simp; omega)), (sl2.trans hc0_2.out.symm), (sl3.trans hc0_3.out.symm), (sl4.trans hc0_4.out.symm), (sl5.trans hc0_5.out.symm), (sl10.trans hc0_10.out.symm), HB.out, ⟨by omega, by omega⟩, hO9, hNBw, kb4, kb5⟩
     omega
    case dep23 =>
      iterate 12 refine dR ?_
      refine depR_cons (fun X X' h => ?_) ?_
      · (first | exact ⟨rfl, rfl⟩ | (have e12 := h 12 (by decide +kernel); constructor <;> (first | rfl | (simp only [e12]))))
      exact depR_nil
   case dep22 =>
     iterate 21 refine dR ?_
     exact depR_nil
  ·skip
   have hie : i = min lh.length 30 := by have h := h31; simp at h; omega
   repeat ((fail_if_success refine stp ?_); with_reducible go_step)
   clear hc0_2 hc0_3 hc0_4 hc0_5 hc0_10; refine region_F ?_; refine pl ?_; refine pl ?_; refine listF_abs (fun s21 z' => ?_); have sl8 := gu 8 z'; clear z' sl2 sl3 sl4 sl5 sl9 sl10 sl11 sl29 sl30 sl31; refine listF_nil ?_
   repeat ((fail_if_success refine stp ?_); with_reducible go_step)
   refine ret_F _ (res_t Try.results42 ((getD_F (by decide)).trans sl8)) ?_; exact ⟨a9, c9, _, rfl, by rw [mkL_len, ← hie], by rw [mkL_len, ← hie]; exact Own.base hO9 gNB, HB.out.toBelow⟩
 ·skip
  have hie : i = min lh.length 30 := by have h := h28; simp at h; omega
  refine pn false ?_; refine pn false ?_; refine pl ?_; refine listF_abs (fun s22 z' => ?_); replace sl2 := gs 2 z' sl2; replace sl3 := gs 3 z' sl3; replace sl4 := gs 4 z' sl4; replace sl5 := gs 5 z' sl5; replace sl9 := gs 9 z' sl9; replace sl10 := gs 10 z' sl10; replace sl11 := gs 11 z' sl11; have sl31 := gu 31 z'; clear z' sl28; refine listF_nil ?_
  repeat ((fail_if_success refine stp ?_); with_reducible go_step)
  refine cond_f ?_
  repeat ((fail_if_success refine stp ?_); with_reducible go_step)
  clear hc0_2 hc0_3 hc0_4 hc0_5 hc0_10; refine region_F ?_; refine pl ?_; refine pl ?_; refine listF_abs (fun s23 z' => ?_); have sl8 := gu 8 z'; clear z' sl2 sl3 sl4 sl5 sl9 sl10 sl11 sl31; refine listF_nil ?_
  repeat ((fail_if_success refine stp ?_); with_reducible go_step)
  refine ret_F _ (res_t Try.results42 ((getD_F (by decide)).trans sl8)) ?_; exact ⟨a9, c9, _, rfl, by rw [mkL_len, ← hie], by rw [mkL_len, ← hie]; exact Own.base hO9 gNB, HB.out.toBelow⟩
end

end Go.Proofs.Ytndcmmghgljinaa
