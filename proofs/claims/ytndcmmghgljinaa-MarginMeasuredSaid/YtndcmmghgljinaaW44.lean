/- worn, wear. -/
import Derived.Test.YtndcmmghgljinaaW3
import Derived.Test.YtndcmmghgljinaaM8
set_option linter.all false
namespace Go.Proofs.Ytndcmmghgljinaa
open Go.RowKit


abbrev u16c (n : Int) : List Value := [.int .u16 n]
abbrev RdU := Rd u16c 1
def U16 (l : List Int) : Prop := ∀ x ∈ l, 0 ≤ x ∧ x ≤ 65535
theorem RdU.ne {w : World} {a : Option Addr} {l : List Int} (h : RdU w a l) {k : Nat} (hk : k < l.length) :
    ∃ b off, a = some ⟨b, off, none⟩ ∧ b < w.heap.size ∧ w.cell? ⟨b, off + k, none⟩ = some (.int .u16 l[k]) := by
  obtain ⟨b, off, ha, hb, hc⟩ := Rd.ne h hk; exact ⟨b, off, ha, hb, by simpa using hc 0 _ rfl⟩
/-- the n-th number of a list, by turns -/
def wearAt (l : List Int) (n : Nat) : Int := if l.length = 0 then 0 else l.getD (n % l.length) 0
theorem wearAt_bd {l : List Int} (h : U16 l) (n : Nat) : 0 ≤ wearAt l n ∧ wearAt l n ≤ 65535 := by
  unfold wearAt
  split
  · omega
  · have hm : n % l.length < l.length := Nat.mod_lt _ (by omega)
    rw [getD_get hm]; exact h _ (List.getElem_mem hm)
theorem u16_wrap {n : Int} (h : 0 ≤ n ∧ n ≤ 65535) : IntKind.i64.wrap n = n := IntWalk.i64_in _ (by omega)

set_option maxRecDepth 100000 in
set_option maxHeartbeats 1000000 in
theorem wear_any (a : Option Addr) (c : Nat) (l : List Int) (n : Nat) (w : World) (hl : l.length ≤ 9223372036854775807) (hn : n ≤ 100000) (hR : RdU w a l) :
    Calls Try.prog 45 #[.slice a l.length c, .int .i64 (n : Int)] w (fun e w' => e = .returned (.int .u16 (wearAt l n)) ∧ Below w.heap.size w w') := by
 have HR := hid hR; clear hR
 refine enter_F Try.func45 rfl Try.ntmps45 (by simp) ?_
 intro s0 hs; have sl0 : s0 0 = .slice a l.length c := hs 0 (by simp); have sl1 : s0 1 = .int .i64 (n : Int) := hs 1 (by simp); clear hs; have HB := hid (OldB.refl [] w)
 repeat ((fail_if_success refine stp ?_); with_reducible go_step)
 refine region_F ?_; refine pl ?_; refine listF_abs (fun s1 z' => ?_); replace sl0 := gs 0 z' sl0; replace sl1 := gs 1 z' sl1; clear z'; refine listF_nil ?_
 repeat ((fail_if_success refine stp ?_); with_reducible go_step)
 refine region_F ?_
 iterate 3 refine pl ?_
 refine listF_abs (fun s2 z' => ?_); replace sl0 := gs 0 z' sl0; replace sl1 := gs 1 z' sl1; have sl7 := gu 7 z'; clear z'; refine listF_nil ?_
 repeat ((fail_if_success refine stp ?_); with_reducible go_step)
 refine cond_E sl7 (by decide) ?_ ?_ <;> (clear sl7; intro h7 sl7)
 ·skip
  have h0 : l.length = 0 := by simpa using h7
  have He := hid (show wearAt l n = 0 by unfold wearAt; rw [if_pos h0])
  repeat ((fail_if_success refine stp ?_); with_reducible go_step)
  refine region_F ?_; refine pl ?_; refine listF_abs (fun s3 z' => ?_); have sl4 := gu 4 z'; clear z' sl0 sl1 sl7; refine listF_nil ?_
  repeat ((fail_if_success refine stp ?_); with_reducible go_step)
  refine ret_F _ (res_t Try.results45 ((getD_F (by decide)).trans sl4)) ?_; exact ⟨by rw [He.out], HB.out.toBelow⟩
 ·skip
  have h0 : ¬ l.length = 0 := by simpa using h7
  have hm : n % l.length < l.length := Nat.mod_lt _ (by omega); have He := hid (show wearAt l n = l[n % l.length] by unfold wearAt; rw [if_neg h0, getD_get hm]); obtain ⟨b, off, rfl, hb, c0⟩ := RdU.ne (Rd.oldB HR.out HB.out (by simp)) hm
  generalize l[n % l.length] = y at *
  have hz1 : ¬ (l.length : Int) = 0 := by omega
  have hm1 : (n : Int).tmod (l.length : Int) = ((n % l.length : Nat) : Int) := (Int.ofNat_tmod _ _).symm; have hm2 : IntKind.i64.wrap ((n % l.length : Nat) : Int) = ((n % l.length : Nat) : Int) := IntWalk.i64_in _ (by omega)
  have hm3 : ((n % l.length : Nat) : Int) < (l.length : Int) := by omega
  generalize hjj : n % l.length = jj at *
  have Hjj := hid hjj; clear hjj
  repeat ((fail_if_success refine stp ?_); with_reducible go_step)
  refine region_F ?_
  iterate 8 refine pl ?_
  refine listF_abs (fun s4 z' => ?_); have sl4 := gu 4 z'; clear z' sl0 sl1 sl7; refine listF_nil ?_
  repeat ((fail_if_success refine stp ?_); with_reducible go_step)
  refine ret_F _ (res_t Try.results45 ((getD_F (by decide)).trans sl4)) ?_; exact ⟨by rw [He.out], HB.out.toBelow⟩

set_option maxRecDepth 100000 in
set_option maxHeartbeats 1000000 in
theorem worn_any (k : Kd) (a : Option Addr) (c : Nat) (s n : Int) (w : World) (hK : KOk k) (hs : 0 ≤ s ∧ s ≤ 1000000) (hn : 0 ≤ n ∧ n ≤ 65535) :
    Calls Try.prog 44 #[.agg #[.int .i64 k.new, .int .i64 k.wear.lo, .int .i64 k.wear.hi, .slice a k.steps.length c], .int .i64 s, .int .u16 n] w (fun e w' => e = .returned (.int .i64 (max 0 (s - k.wear.lo - n % (k.wear.hi - k.wear.lo + 1)))) ∧ Below w.heap.size w w') := by
 have h0 := hK.w0; have h1 := hK.w1; have h2 := hK.w2; clear hK; have m0 := Int.emod_nonneg n (b := k.wear.hi - k.wear.lo + 1) (by omega); have m1 := Int.emod_lt_of_pos n (b := k.wear.hi - k.wear.lo + 1) (by omega); have hr : n.tmod (k.wear.hi - k.wear.lo + 1) = n % (k.wear.hi - k.wear.lo + 1) := Int.tmod_eq_emod_of_nonneg hn.1
 have hz : ¬ k.wear.hi - k.wear.lo + 1 = 0 := by omega
 have w1 := u16_wrap hn; have w2 : IntKind.i64.wrap (s - k.wear.lo) = s - k.wear.lo := IntWalk.i64_in _ (by omega); have w3 : IntKind.i64.wrap (k.wear.hi - k.wear.lo) = k.wear.hi - k.wear.lo := IntWalk.i64_in _ (by omega); have w4 : IntKind.i64.wrap (k.wear.hi - k.wear.lo + 1) = k.wear.hi - k.wear.lo + 1 := IntWalk.i64_in _ (by omega); obtain ⟨r, hr0⟩ : ∃ r, n % (k.wear.hi - k.wear.lo + 1) = r := ⟨_, rfl⟩; rw [hr0] at hr m0 m1 ⊢; clear hr0; have w5 : IntKind.i64.wrap r = r := IntWalk.i64_in _ (by omega); have w6 : IntKind.i64.wrap (s - k.wear.lo - r) = s - k.wear.lo - r := IntWalk.i64_in _ (by omega); clear m0 m1 hs hn h0 h1 h2
 refine enter_F Try.func44 rfl Try.ntmps44 (by simp) ?_
 intro s0 hs; have sl0 : s0 0 = .agg #[.int .i64 k.new, .int .i64 k.wear.lo, .int .i64 k.wear.hi, .slice a k.steps.length c] := hs 0 (by simp); have sl1 : s0 1 = .int .i64 s := hs 1 (by simp); have sl2 : s0 2 = .int .u16 n := hs 2 (by simp); clear hs; have HB := hid (OldB.refl [] w)
 repeat ((fail_if_success refine stp ?_); with_reducible go_step)
 refine region_F ?_; refine pa (fun w1 B3 hB kb3' hb2 => ?_); have gb3 := HB.out.gB hB; have eb3 := eB hB; clear hB; replace HB := hid (HB.out.below hb2); clear hb2; have kb3 := kb3'; clear kb3'; have qb3 := kb3.1; refine pl ?_; refine listF_abs (fun s3 z' => ?_); replace sl1 := gs 1 z' sl1; replace sl2 := gs 2 z' sl2; have sl3 := gu 3 z'; clear z' sl0; refine listF_nil ?_
 repeat ((fail_if_success refine stp ?_); with_reducible go_step)
 have cb3_0 := kb3.cell 0 rfl; have cb3_1 := kb3.cell 1 rfl; have cb3_2 := kb3.cell 2 rfl; have cb3_3 := kb3.cell 3 rfl; refine regionQ_F (Below w1.heap.size w1) (by kernel_rfl) (by kernel_rfl) (Below.refl _ _).drew ?_
 iterate 19 refine lq ?_
 refine listQ_nil ?_; intro w4 hb5; clear cb3_0 cb3_1 cb3_2 cb3_3; clear qb3; replace kb3 := kb3.at hb5; replace HB := hid (HB.out.below hb5); clear hb5; have qb3 := kb3.1
 repeat ((fail_if_success refine stp ?_); with_reducible go_step)
 refine ret_abs (fun s6 z' => ?_); have sl6 := gu 6 z'; clear z' sl1 sl2 sl3; refine ret_F _ (res_t Try.results44 ((getD_F (by decide)).trans sl6)) ?_; refine ⟨?_, HB.out.toBelow⟩
 simp only [ite_max]

end Go.Proofs.Ytndcmmghgljinaa
