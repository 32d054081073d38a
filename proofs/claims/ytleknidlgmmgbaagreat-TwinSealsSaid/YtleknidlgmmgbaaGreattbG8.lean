/- General lemmas: maps that a call makes, whatever their elements: what lies at each key. -/
import Derived.Test.YtleknidlgmmgbaaGreattbT3
import Derived.Test.YtleknidlgmmgbaaGreattbT2
import Derived.Deep.DeepAppendWide
import Derived.Maps.OwnSet
set_option linter.all false
namespace Go.Proofs.YtleknidlgmmgbaaGreat

section
theorem sign_bd {w : Int} (h : 0 ≤ w ∧ w ≤ 16777215) : -8388608 ≤ signI w ∧ signI w ≤ 8388607 := by unfold signI; split <;> omega
theorem sprod_bd {a b : Int} (ha : 0 ≤ a ∧ a ≤ 16777215) (hb : 0 ≤ b ∧ b ≤ 16777215) : -70368744177664 ≤ signI a * signI b ∧ signI a * signI b ≤ 70368744177664 := by
  have h1 := sign_bd ha
  have h2 := sign_bd hb
  have k1 : signI a * signI b ≤ (signI a).natAbs * (signI b).natAbs := by
    have := Int.le_natAbs (a := signI a * signI b)
    rw [Int.natAbs_mul] at this
    exact_mod_cast this
  have k2 : -((signI a).natAbs * (signI b).natAbs : Int) ≤ signI a * signI b := by
    have := Int.le_natAbs (a := -(signI a * signI b))
    rw [Int.natAbs_neg, Int.natAbs_mul] at this
    have h : -(signI a * signI b) ≤ ((signI a).natAbs * (signI b).natAbs : Int) := by exact_mod_cast this
    omega
  have k3 : (signI a).natAbs * (signI b).natAbs ≤ 8388608 * 8388608 := Nat.mul_le_mul (by omega) (by omega)
  have k4 : ((signI a).natAbs : Int) * ((signI b).natAbs : Int) ≤ 70368744177664 := by have := Int.ofNat_le.2 k3; rw [Int.natCast_mul] at this; omega
  omega
end

section
open Go.RowKit

abbrev int1 (n : Int) : List Value := [.int .i64 n]
abbrev RdInts := Rd int1 1
theorem RdInts.ne {w : World} {a : Option Addr} {l : List Int} (h : RdInts w a l) {k : Nat} (hk : k < l.length) :
    ∃ b off, a = some ⟨b, off, none⟩ ∧ b < w.heap.size ∧ w.cell? ⟨b, off + k, none⟩ = some (.int .i64 l[k]) := by
  obtain ⟨b, off, ha, hb, hc⟩ := Rd.ne h hk; exact ⟨b, off, ha, hb, by simpa using hc 0 _ rfl⟩
theorem rd_at1 {w : World} {b off : Nat} {l : List Int} (h : RdInts w (some ⟨b, off, none⟩) l) {k : Nat} (hk : k < l.length) {y : Int} (hy : l[k] = y) : w.cell? ⟨b, off + k, none⟩ = some (.int .i64 y) := by
  subst hy; obtain ⟨b', o', ha, _, h1⟩ := RdInts.ne h hk
  cases ha
  exact h1
theorem getD_get {α : Type} {l : List α} {i : Nat} (h : i < l.length) (d : α) : l.getD i d = l[i] := by
  rw [List.getD_eq_getElem?_getD, List.getElem?_eq_getElem h]; rfl
theorem oddU_found {l : List Int} : ∀ {n i : Nat}, i < n → (∀ j, j < i → wordB (l.getD j 0) = true) → wordB (l.getD i 0) = false → oddU l n = i
  | 0, i, h, _, _ => by omega
  | n + 1, i, h, h1, h2 => by
    unfold oddU
    by_cases e : i = n
    · subst e
      have := oddU_neg.2 h1; rw [if_neg (by omega), if_neg (by rw [h2]; decide)]
    · rw [oddU_found (by omega) h1 h2, if_pos (by omega)]
theorem oddU_none {l : List Int} : ∀ {n : Nat}, (∀ j, j < n → wordB (l.getD j 0) = true) → oddU l n = -1
  | 0, _ => rfl
  | n + 1, h => by
    unfold oddU; rw [oddU_none (fun j hj => h j (by omega)), if_neg (by omega), if_pos (h n (by omega))]
theorem take_more {α : Type} [DecidableEq α] {x y : List α} {k : Nat} (hx : k < x.length) (hy : k < y.length) (h : x.take k = y.take k) (hk : x[k] = y[k]) : x.take (k + 1) = y.take (k + 1) := by
  rw [List.take_succ_eq_append_getElem hx, List.take_succ_eq_append_getElem hy, h, hk]
theorem load_t27 {w : World} {b o : Nat} {x0 x1 x2 x3 : Value} (h0 : w.cell? ⟨b, o, none⟩ = some x0) (h1 : w.cell? ⟨b, o + 1, none⟩ = some x1) (h2 : w.cell? ⟨b, o + 2, none⟩ = some x2) (h3 : w.cell? ⟨b, o + 3, none⟩ = some x3) :
    (loadVar 27 ⟨b, o, none⟩).run Tryz.prog w = .ok (.agg #[x0, x1, x2, x3]) w := by
  simp [go_sem, h0, h1, h2, h3]
theorem load_t24 {w : World} {b o : Nat} {x0 x1 x2 x3 x4 x5 x6 x7 : Value} (h0 : w.cell? ⟨b, o, none⟩ = some x0) (h1 : w.cell? ⟨b, o + 1, none⟩ = some x1) (h2 : w.cell? ⟨b, o + 2, none⟩ = some x2) (h3 : w.cell? ⟨b, o + 3, none⟩ = some x3) (h4 : w.cell? ⟨b, o + 4, none⟩ = some x4) (h5 : w.cell? ⟨b, o + 5, none⟩ = some x5) (h6 : w.cell? ⟨b, o + 6, none⟩ = some x6) (h7 : w.cell? ⟨b, o + 7, none⟩ = some x7) :
    (loadVar 24 ⟨b, o, none⟩).run Tryz.prog w = .ok (.agg #[x0, x1, x2, x3, x4, x5, x6, x7]) w := by
  simp [go_sem, h0, h1, h2, h3, h4, h5, h6, h7]
theorem load_t29 {w : World} {b o : Nat} {x0 x1 x2 x3 x4 x5 x6 : Value} (h0 : w.cell? ⟨b, o, none⟩ = some x0) (h1 : w.cell? ⟨b, o + 1, none⟩ = some x1) (h2 : w.cell? ⟨b, o + 2, none⟩ = some x2) (h3 : w.cell? ⟨b, o + 3, none⟩ = some x3) (h4 : w.cell? ⟨b, o + 4, none⟩ = some x4) (h5 : w.cell? ⟨b, o + 5, none⟩ = some x5) (h6 : w.cell? ⟨b, o + 6, none⟩ = some x6) :
    (loadVar 29 ⟨b, o, none⟩).run Tryz.prog w = .ok (.agg #[x0, x1, x2, x3, x4, x5, x6]) w := by
  simp [go_sem, h0, h1, h2, h3, h4, h5, h6]
set_option maxRecDepth 100000 in
set_option maxHeartbeats 1000000 in
theorem rin04_any (n a b : Int) (w : World) :
    Calls Tryz.prog 105 #[.int .i64 n, .int .i64 a, .int .i64 b] w (fun e w' => e = .returned (.bool (inI n a b)) ∧ w = w') := by
 refine enter_F Tryz.func105 rfl Tryz.ntmps105 (by simp) ?_
 intro s0 hs; have sl0 : s0 0 = .int .i64 n := hs 0 (by simp); have sl1 : s0 1 = .int .i64 a := hs 1 (by simp); have sl2 : s0 2 = .int .i64 b := hs 2 (by simp); clear hs; have HB := hid (OldB.refl [] w)
 repeat ((fail_if_success refine stp ?_); with_reducible go_step)
 refine region_F ?_; refine pl ?_; refine listF_abs (fun s1 z' => ?_); replace sl0 := gs 0 z' sl0; replace sl1 := gs 1 z' sl1; replace sl2 := gs 2 z' sl2; clear z'; refine listF_nil ?_
 repeat ((fail_if_success refine stp ?_); with_reducible go_step)
 refine region_F ?_
 iterate 4 refine pl ?_
 refine listF_abs (fun s2 z' => ?_); replace sl0 := gs 0 z' sl0; replace sl2 := gs 2 z' sl2; have sl10 := gu 10 z'; clear z' sl1
 refine boolG sl10 (fun sl10' h10 => ?_) (fun sl10' h10 => ?_) <;> (clear sl10; have sl10 := sl10'; clear sl10')
 ·skip
  iterate 3 refine py ?_
  refine pl ?_; refine pl ?_; refine listF_abs (fun s3 z' => ?_); have sl6 := gu 6 z'; clear z' sl0 sl2 sl10; refine listF_nil ?_
  repeat ((fail_if_success refine stp ?_); with_reducible go_step)
  refine ret_F _ (res_t Tryz.results105 ((getD_F (by decide)).trans sl6)) ?_; exact ⟨ret_bool (by unfold inI; simp at *; try omega), rfl⟩
 ·skip
  refine pn false ?_; refine pn false ?_; refine pn false ?_; refine pl ?_; refine pl ?_; refine listF_abs (fun s4 z' => ?_); have sl6 := gu 6 z'; clear z' sl0 sl2 sl10; refine listF_nil ?_
  repeat ((fail_if_success refine stp ?_); with_reducible go_step)
  refine ret_F _ (res_t Tryz.results105 ((getD_F (by decide)).trans sl6)) ?_; exact ⟨ret_bool (by unfold inI; simp at *; try omega), rfl⟩

set_option maxRecDepth 100000 in
set_option maxHeartbeats 1000000 in
theorem rword_any (n : Int) (w : World) :
    Calls Tryz.prog 87 #[.int .i64 n] w (fun e w' => e = .returned (.bool (wordB n)) ∧ w = w') := by
 refine enter_F Tryz.func87 rfl Tryz.ntmps87 (by simp) ?_
 intro s0 hs; have sl0 : s0 0 = .int .i64 n := hs 0 (by simp); clear hs; have HB := hid (OldB.refl [] w)
 repeat ((fail_if_success refine stp ?_); with_reducible go_step)
 refine region_F ?_; refine pl ?_; refine listF_abs (fun s1 z' => ?_); replace sl0 := gs 0 z' sl0; clear z'; refine listF_nil ?_
 repeat ((fail_if_success refine stp ?_); with_reducible go_step)
 refine region_F ?_; refine pl ?_; refine listF_step rfl (fun K' hK => ?_); unfold opF; go_simp; refine (rin04_any n 0 16777215 _).mono ?_; rintro e w' ⟨rfl, rfl⟩; refine ⟨_, rfl, hK _ _ ?_⟩; clear hK K'; refine pl ?_; refine listF_abs (fun s3 z' => ?_); have sl2 := gu 2 z'; clear z' sl0; refine listF_nil ?_
 repeat ((fail_if_success refine stp ?_); with_reducible go_step)
 refine ret_F _ (res_t Tryz.results87 ((getD_F (by decide)).trans sl2)) ?_; exact ⟨rfl, rfl⟩

set_option maxRecDepth 100000 in
set_option maxHeartbeats 1000000 in
theorem raddr_any (n : Int) (w : World) :
    Calls Tryz.prog 84 #[.int .i64 n] w (fun e w' => e = .returned (.bool (addrB n)) ∧ w = w') := by
 refine enter_F Tryz.func84 rfl Tryz.ntmps84 (by simp) ?_
 intro s0 hs; have sl0 : s0 0 = .int .i64 n := hs 0 (by simp); clear hs; have HB := hid (OldB.refl [] w)
 repeat ((fail_if_success refine stp ?_); with_reducible go_step)
 refine region_F ?_; refine pl ?_; refine listF_abs (fun s1 z' => ?_); replace sl0 := gs 0 z' sl0; clear z'; refine listF_nil ?_
 repeat ((fail_if_success refine stp ?_); with_reducible go_step)
 refine region_F ?_; refine pl ?_; refine listF_step rfl (fun K' hK => ?_); unfold opF; go_simp; refine (rin04_any n 0 127 _).mono ?_; rintro e w' ⟨rfl, rfl⟩; refine ⟨_, rfl, hK _ _ ?_⟩; clear hK K'; refine pl ?_; refine listF_abs (fun s3 z' => ?_); have sl2 := gu 2 z'; clear z' sl0; refine listF_nil ?_
 repeat ((fail_if_success refine stp ?_); with_reducible go_step)
 refine ret_F _ (res_t Tryz.results84 ((getD_F (by decide)).trans sl2)) ?_; exact ⟨rfl, rfl⟩

theorem t1O_bd (o : Ord) (t : Int) : t ≤ t1O o t ∧ t1O o t ≤ t + 16 := by have := afterT_gt t o.fr; unfold t1O; split <;> omega
theorem t2O_bd (o : Ord) (t : Int) : t ≤ t2O o t ∧ t2O o t ≤ t + 32 := by have h1 := t1O_bd o t; have := afterT_gt (t1O o t) o.tt; unfold t2O; split <;> omega
theorem nextO_bd {o : Ord} (b : Bool) (ho : (0 ≤ o.op ∧ o.op ≤ 7) ∧ (0 ≤ o.fr ∧ o.fr ≤ 127) ∧ (0 ≤ o.tt ∧ o.tt ≤ 127) ∧ (0 ≤ o.nx ∧ o.nx ≤ 127)) : 0 ≤ nextO o b ∧ nextO o b ≤ 127 := by unfold nextO; split <;> omega

set_option maxRecDepth 100000 in
set_option maxHeartbeats 1000000 in
theorem rodd_any (a : Option Addr) (c : Nat) (l : List Int) (w : World) (hR : RdInts w a l) (hl : l.length ≤ 9223372036854775807) :
    Calls Tryz.prog 100 #[.slice a l.length c] w (fun e w' => e = .returned (.int .i64 (oddI l)) ∧ Below w.heap.size w w') := by
 have HR := hid hR; clear hR
 refine enter_F Tryz.func100 rfl Tryz.ntmps100 (by simp) ?_
 intro s0 hs; have sl0 : s0 0 = .slice a l.length c := hs 0 (by simp); clear hs; have HB := hid (OldB.refl [] w)
 repeat ((fail_if_success refine stp ?_); with_reducible go_step)
 refine region_F ?_; refine pl ?_; refine listF_abs (fun s1 z' => ?_); replace sl0 := gs 0 z' sl0; clear z'; refine listF_nil ?_
 repeat ((fail_if_success refine stp ?_); with_reducible go_step)
 refine region_F ?_; refine pl ?_; refine listF_abs (fun s2 z' => ?_); replace sl0 := gs 0 z' sl0; have sl3 := gu 3 z'; clear z'; refine listF_nil ?_
 repeat ((fail_if_success refine stp ?_); with_reducible go_step)
 have hc0_0 := hid sl0; refine loop_F (n := 17) (fun kJ sJ wJ => ∃ (i : Nat), kJ = l.length - i ∧ sJ 3 = .int .i64 (i : Int) ∧ sJ 0 = s2 0 ∧ OldB [] w wJ ∧ i ≤ l.length ∧ (Hid (∀ j, j < i → wordB (l.getD j 0) = true))) ⟨0, rfl, (by first | exact sl3 | (rw [sl3]; go_num) | (rw [sl3]; rfl)), rfl, OldB.refl _ _, Nat.zero_le _, hid (fun j hj => by omega)⟩ ?_; clear sl3; rintro kJ s3 w4 ⟨i, rfl, sl3, e0, hb5, hil, Hall⟩; replace sl0 := e0.trans sl0; clear e0; have hoJ := hb5; replace HB := hid (HB.out.more hb5 (by simp; try omega)); clear hb5; have HoJ := hid hoJ; clear hoJ; have HL6 := HoJ; clear HoJ
 repeat ((fail_if_success refine stp ?_); with_reducible go_step)
 refine region_F ?_
 iterate 4 refine pl ?_
 refine listF_abs (fun s7 z' => ?_); replace sl0 := gs 0 z' sl0; replace sl3 := gs 3 z' sl3; have sl7 := gu 7 z'; clear z'; refine listF_nil ?_
 repeat ((fail_if_success refine stp ?_); with_reducible go_step)
 refine cond_E sl7 (by decide) ?_ ?_ <;> (clear sl7; intro h7 sl7)
 ·skip
  have hi : i < l.length := by simpa using h7
  have hii : (i : Int) < l.length := by omega
  obtain ⟨b, off, rfl, hb, c0⟩ := RdInts.ne (Rd.oldB HR.out HB.out (by simp)) hi; obtain ⟨y, hy⟩ : ∃ z, l[i] = z := ⟨_, rfl⟩; rw [hy] at c0; have Hy := hid (show l.getD i 0 = y by rw [getD_get hi, hy]); clear hy
  repeat ((fail_if_success refine stp ?_); with_reducible go_step)
  refine region_F ?_
  iterate 4 refine pl ?_
  refine listF_step rfl (fun K' hK => ?_); unfold opF; go_simp; refine (rword_any y _).mono ?_; rintro e w' ⟨rfl, rfl⟩; refine ⟨_, rfl, hK _ _ ?_⟩; clear hK K'; refine pl ?_; refine listF_abs (fun s9 z' => ?_); replace sl0 := gs 0 z' sl0; replace sl3 := gs 3 z' sl3; have sl15 := gu 15 z'; clear z' sl7; refine listF_nil ?_
  repeat ((fail_if_success refine stp ?_); with_reducible go_step)
  refine cond_E sl15 (by decide) ?_ ?_ <;> (clear sl15; intro h15 sl15)
  ·skip
   have Hf := hid (show oddI l = i from oddU_found hi Hall.out (by rw [Hy.out]; simpa using h15))
   repeat ((fail_if_success refine stp ?_); with_reducible go_step)
   refine region_F ?_; refine pl ?_; refine pl ?_; refine listF_abs (fun s10 z' => ?_); have sl2 := gu 2 z'; clear z' sl0 sl3 sl15; refine listF_nil ?_
   repeat ((fail_if_success refine stp ?_); with_reducible go_step)
   refine ret_F _ (res_t Tryz.results100 ((getD_F (by decide)).trans sl2)) ?_; exact ⟨ret_int Hf.out.symm, HB.out.toBelow⟩
  ·skip
   have Hw := hid (show wordB (l.getD i 0) = true by rw [Hy.out]; simpa using h15)
   repeat ((fail_if_success refine stp ?_); with_reducible go_step)
   refine region_F ?_
   iterate 3 refine pl ?_
   refine listF_abs (fun s11 z' => ?_); replace sl0 := gs 0 z' sl0; replace sl3 := gu 3 z'; clear z' sl15; refine listF_nil ?_
   repeat ((fail_if_success refine stp ?_); with_reducible go_step)
   refine ⟨_, _, rfl, ?_, i + 1, rfl, (by first | (with_reducible exact sl3) | (rw [sl3]; (with_reducible go_num); done) | (rw [sl3, IntWalk.i64_in] <;> first | ((with_reducible go_num); done) | omega) | (rw [sl3]; go_num; done) | (rw [sl3]; simp; done) | (rw [sl3]; simp; omega)), (sl0.trans hc0_0.out.symm), HL6.out, by omega, hid (fun j hj => by rcases Nat.lt_or_ge j i with h | h <;> first | exact Hall.out j h | (have e : j = i := (by omega); subst e; exact Hw.out))⟩
   omega
 ·skip
  have hi : i = l.length := by have h := h7; simp at h; omega
  have Hn := hid (show oddI l = -1 from oddU_none (fun j hj => Hall.out j (by omega)))
  repeat ((fail_if_success refine stp ?_); with_reducible go_step)
  clear HL6; clear hc0_0; refine region_F ?_; refine pl ?_; refine listF_abs (fun s12 z' => ?_); have sl2 := gu 2 z'; clear z' sl0 sl3 sl7; refine listF_nil ?_
  repeat ((fail_if_success refine stp ?_); with_reducible go_step)
  refine ret_F _ (res_t Tryz.results100 ((getD_F (by decide)).trans sl2)) ?_; exact ⟨ret_int Hn.out.symm, HB.out.toBelow⟩
end

section
open Go.RowKit


structure SA where
  sa : Option Addr
  sc : Nat
  ta : Option Addr
  tc : Nat
  pa : Option Addr
  pc : Nat
/-- the cells of a state -/
abbrev stC (s : St4) (A : SA) : List Value := [.slice A.sa s.store.length A.sc, .slice A.ta s.tape.length A.tc, .int .i64 s.taken, .slice A.pa s.printed.length A.pc, .int .i64 s.time, .int .i64 s.pc, .int .i64 s.done, .int .i64 s.why]
structure RdSt (w : World) (s : St4) (A : SA) : Prop where
  st : RdInts w A.sa s.store
  tp : RdInts w A.ta s.tape
  pr : RdInts w A.pa s.printed
theorem RdSt.at {w w' : World} {s : St4} {A : SA} (h : RdSt w s A) (hb : Below w.heap.size w w') : RdSt w' s A := ⟨Rd.at h.st hb, Rd.at h.tp hb, Rd.at h.pr hb⟩
theorem RdSt.old {w w' : World} {s : St4} {A : SA} (h : RdSt w s A) (ho : OldB [] w w') : RdSt w' s A := ⟨Rd.oldB h.st ho (by simp), Rd.oldB h.tp ho (by simp), Rd.oldB h.pr ho (by simp)⟩
def LenI (s : St4) : Prop := s.store.length ≤ 9223372036854775807 ∧ s.tape.length ≤ 9223372036854775807 ∧ s.printed.length ≤ 9223372036854775807
theorem chk_1 {s : St4} (h : s.store.length ≠ 128 ∨ 200 < s.tape.length ∨ 200 < s.printed.length) : chk4 s = (1, 0, 3) := by unfold chk4; rw [if_pos h]
theorem chk_2 {s : St4} (h : ¬ (s.store.length ≠ 128 ∨ 200 < s.tape.length ∨ 200 < s.printed.length)) (g : 0 ≤ oddI s.store) : chk4 s = (2, oddI s.store, 7) := by unfold chk4; rw [if_neg h, if_pos g]
theorem chk_3 {s : St4} (h : ¬ (s.store.length ≠ 128 ∨ 200 < s.tape.length ∨ 200 < s.printed.length)) (g : ¬ 0 ≤ oddI s.store) (g2 : 0 ≤ oddI s.tape) : chk4 s = (3, oddI s.tape, 7) := by unfold chk4; rw [if_neg h, if_neg g, if_pos g2]
theorem chk_4 {s : St4} (h : ¬ (s.store.length ≠ 128 ∨ 200 < s.tape.length ∨ 200 < s.printed.length)) (g : ¬ 0 ≤ oddI s.store) (g2 : ¬ 0 ≤ oddI s.tape) (g3 : 0 ≤ oddI s.printed) : chk4 s = (4, oddI s.printed, 7) := by unfold chk4; rw [if_neg h, if_neg g, if_neg g2, if_pos g3]
def numB (s : St4) : Bool := !inI s.taken 0 s.tape.length || !inI s.time 0 1000000000 || !addrB s.pc || !inI s.done 0 s.time || !inI s.why 0 4
theorem chk_5 {s : St4} (h : ¬ (s.store.length ≠ 128 ∨ 200 < s.tape.length ∨ 200 < s.printed.length)) (g : ¬ 0 ≤ oddI s.store) (g2 : ¬ 0 ≤ oddI s.tape) (g3 : ¬ 0 ≤ oddI s.printed) (g4 : numB s = true) : chk4 s = (5, 0, 7) := by
  unfold chk4; rw [if_neg h, if_neg g, if_neg g2, if_neg g3, if_pos]; unfold numB at g4
  simp only [Bool.or_eq_true, Bool.not_eq_true'] at g4
  rcases g4 with (((h1 | h1) | h1) | h1) | h1
  · exact .inl h1
  · exact .inr (.inl h1)
  · exact .inr (.inr (.inl h1))
  · exact .inr (.inr (.inr (.inl h1)))
  · exact .inr (.inr (.inr (.inr h1)))
theorem num_of {s : St4} (g4 : numB s = false) : (0 ≤ s.taken ∧ s.taken ≤ s.tape.length) ∧ (0 ≤ s.time ∧ s.time ≤ 1000000000) ∧ (0 ≤ s.pc ∧ s.pc ≤ 127) ∧ (0 ≤ s.done ∧ s.done ≤ s.time) ∧ (0 ≤ s.why ∧ s.why ≤ 4) := by
  unfold numB at g4
  simp only [Bool.or_eq_false_iff, Bool.not_eq_false', addrB, inI_iff] at g4
  exact ⟨g4.1.1.1.1, g4.1.1.1.2, g4.1.1.2, g4.1.2, g4.2⟩
theorem chk_6 {s : St4} (h : ¬ (s.store.length ≠ 128 ∨ 200 < s.tape.length ∨ 200 < s.printed.length)) (g : ¬ 0 ≤ oddI s.store) (g2 : ¬ 0 ≤ oddI s.tape) (g3 : ¬ 0 ≤ oddI s.printed) (g4 : numB s = false) : chk4 s = if s.time % 16 ≠ s.pc % 16 then (6, 0, 2) else (0, 0, 0) := by
  unfold chk4; rw [if_neg h, if_neg g, if_neg g2, if_neg g3, if_neg]; unfold numB at g4
  simp only [Bool.or_eq_false_iff, Bool.not_eq_false'] at g4
  simp [g4]

set_option maxRecDepth 100000 in
set_option maxHeartbeats 1000000 in
theorem rints_any (al : Option Addr) (cl : Nat) (l : List Int) (am : Option Addr) (cm : Nat) (m : List Int) (w : World) (hRl : RdInts w al l) (hRm : RdInts w am m) (hll : l.length ≤ 9223372036854775807) (hlm : m.length ≤ 9223372036854775807) :
    Calls Tryz.prog 29 #[.slice al l.length cl, .slice am m.length cm] w (fun e w' => e = .returned (.bool (decide (l = m))) ∧ Below w.heap.size w w') := by
 have HRl := hid hRl; have HRm := hid hRm; clear hRl hRm
 refine enter_F Tryz.func29 rfl Tryz.ntmps29 (by simp) ?_
 intro s0 hs; have sl0 : s0 0 = .slice al l.length cl := hs 0 (by simp); have sl1 : s0 1 = .slice am m.length cm := hs 1 (by simp); clear hs; have HB := hid (OldB.refl [] w)
 repeat ((fail_if_success refine stp ?_); with_reducible go_step)
 refine region_F ?_; refine pl ?_; refine listF_abs (fun s1 z' => ?_); replace sl0 := gs 0 z' sl0; replace sl1 := gs 1 z' sl1; clear z'; refine listF_nil ?_
 repeat ((fail_if_success refine stp ?_); with_reducible go_step)
 refine region_F ?_
 iterate 5 refine pl ?_
 refine listF_abs (fun s2 z' => ?_); replace sl0 := gs 0 z' sl0; replace sl1 := gs 1 z' sl1; have sl10 := gu 10 z'; clear z'; refine listF_nil ?_
 repeat ((fail_if_success refine stp ?_); with_reducible go_step)
 refine cond_E sl10 (by decide) ?_ ?_ <;> (clear sl10; intro h10 sl10)
 ·skip
  have Hf := hid (show decide (l = m) = false from decide_eq_false (fun e => by have h := h10; rw [e] at h; simp at h))
  repeat ((fail_if_success refine stp ?_); with_reducible go_step)
  refine region_F ?_; refine pl ?_; refine listF_abs (fun s3 z' => ?_); have sl4 := gu 4 z'; clear z' sl0 sl1 sl10; refine listF_nil ?_
  repeat ((fail_if_success refine stp ?_); with_reducible go_step)
  refine ret_F _ (res_t Tryz.results29 ((getD_F (by decide)).trans sl4)) ?_; exact ⟨ret_bool Hf.out.symm, HB.out.toBelow⟩
 ·skip
  have hlen : (l.length : Int) = m.length := by have h := h10; simp at h; omega
  have Hlen := hid (show l.length = m.length by omega); clear hlen
  repeat ((fail_if_success refine stp ?_); with_reducible go_step)
  refine region_F ?_; refine pl ?_; refine listF_abs (fun s4 z' => ?_); replace sl0 := gs 0 z' sl0; replace sl1 := gs 1 z' sl1; have sl5 := gu 5 z'; clear z' sl10; refine listF_nil ?_
  repeat ((fail_if_success refine stp ?_); with_reducible go_step)
  have hc0_0 := hid sl0; have hc0_1 := hid sl1; refine loop_F (n := 26) (fun kJ sJ wJ => ∃ (i : Nat), kJ = l.length - i ∧ sJ 5 = .int .i64 (i : Int) ∧ sJ 0 = s4 0 ∧ sJ 1 = s4 1 ∧ OldB [] w wJ ∧ i ≤ l.length ∧ Hid (l.take i = m.take i)) ⟨0, rfl, (by first | exact sl5 | (rw [sl5]; go_num) | (rw [sl5]; rfl)), rfl, rfl, OldB.refl _ _, Nat.zero_le _, hid rfl⟩ ?_; clear sl5; rintro kJ s5 w6 ⟨i, rfl, sl5, e0, e1, hb7, hil, Htk⟩; replace sl0 := e0.trans sl0; clear e0; replace sl1 := e1.trans sl1; clear e1; have hoJ := hb7; replace HB := hid (HB.out.more hb7 (by simp; try omega)); clear hb7; have HoJ := hid hoJ; clear hoJ; have HL8 := HoJ; clear HoJ
  repeat ((fail_if_success refine stp ?_); with_reducible go_step)
  refine region_F ?_
  iterate 4 refine pl ?_
  refine listF_abs (fun s9 z' => ?_); replace sl0 := gs 0 z' sl0; replace sl1 := gs 1 z' sl1; replace sl5 := gs 5 z' sl5; have sl14 := gu 14 z'; clear z'; refine listF_nil ?_
  repeat ((fail_if_success refine stp ?_); with_reducible go_step)
  refine cond_E sl14 (by decide) ?_ ?_ <;> (clear sl14; intro h14 sl14)
  ·skip
   have hi : i < l.length := by simpa using h14
   have hii : (i : Int) < l.length := by omega
   have hi2 : i < m.length := by have := Hlen.out; omega
   have hii2 : (i : Int) < m.length := by omega
   obtain ⟨bl, ol, hal, hbl, c0⟩ := RdInts.ne (Rd.oldB HRl.out HB.out (by simp)) hi; subst hal; obtain ⟨bm, om, ham, hbm, d0⟩ := RdInts.ne (Rd.oldB HRm.out HB.out (by simp)) hi2; subst ham; obtain ⟨y, hy⟩ : ∃ z, l[i] = z := ⟨_, rfl⟩; obtain ⟨z, hz⟩ : ∃ z, m[i] = z := ⟨_, rfl⟩; rw [hy] at c0; rw [hz] at d0; have Hy := hid hy; have Hz := hid hz; clear hy hz
   repeat ((fail_if_success refine stp ?_); with_reducible go_step)
   refine regionR_F [] [] [] [.q [], .q [], .q [], .q [], .q [], .q [], .q [], .q []] [?v1_0, ?v1_1, ?v1_2, ?v1_3, ?v1_4, ?v1_5, ?v1_6, ?v1_7] [fun _ => [], fun _ => [], fun _ => [], fun _ => [], fun _ => [], fun _ => [], fun _ => [], fun _ => []] (by kernel_rfl) (by kernel_rfl) (by kernel_rfl) (by kernel_rfl) (by kernel_rfl) (by first | exact List.nodup_nil | exact List.nodup_singleton _ | (simp; done) | (simp; omega)) bc_nil ?walk1 ?dep1
   case walk1 =>
    iterate 8 refine rq ?_
    refine walkR_nil (fun X hX w10 hwz hcz => ?_); clear hX hcz
    (try clear X)
    skip; have hb11 := hwz.unDrew; clear hwz; replace HL8 := hid (HL8.out.more hb11 (by simp; try omega)); replace HB := hid (HB.out.more hb11 (by simp; try omega)); clear hb11; refine pl ?_; refine listF_abs (fun s12 z' => ?_); replace sl0 := gs 0 z' sl0; replace sl1 := gs 1 z' sl1; replace sl5 := gs 5 z' sl5; have sl25 := gu 25 z'; clear z' sl14; refine listF_nil ?_
    repeat ((fail_if_success refine stp ?_); with_reducible go_step)
    refine cond_E sl25 (by decide) ?_ ?_ <;> (clear sl25; intro h25 sl25)
    ·skip
     have Hf := hid (show decide (l = m) = false from decide_eq_false (fun e => by subst e; have h := h25; rw [← Hy.out, ← Hz.out] at h; simp at h))
     repeat ((fail_if_success refine stp ?_); with_reducible go_step)
     refine region_F ?_; refine pl ?_; refine listF_abs (fun s13 z' => ?_); have sl4 := gu 4 z'; clear z' sl0 sl1 sl5 sl25; refine listF_nil ?_
     repeat ((fail_if_success refine stp ?_); with_reducible go_step)
     refine ret_F _ (res_t Tryz.results29 ((getD_F (by decide)).trans sl4)) ?_; exact ⟨ret_bool Hf.out.symm, HB.out.toBelow⟩
    ·skip
     have hyz : y = z := by have h := h25; simp at h; exact h
     repeat ((fail_if_success refine stp ?_); with_reducible go_step)
     refine region_F ?_
     iterate 3 refine pl ?_
     refine listF_abs (fun s14 z' => ?_); replace sl0 := gs 0 z' sl0; replace sl1 := gs 1 z' sl1; replace sl5 := gu 5 z'; clear z' sl25; refine listF_nil ?_
     repeat ((fail_if_success refine stp ?_); with_reducible go_step)
     refine ⟨_, _, rfl, ?_, i + 1, rfl, (by first | (with_reducible exact sl5) | (rw [sl5]; (with_reducible go_num); done) | (rw [sl5, IntWalk.i64_in] <;> first | ((with_reducible go_num); done) | omega) | (rw [sl5]; go_num; done) | (rw [sl5]; simp; done) | (rw [sl5]; simp; omega)), (sl0.trans hc0_0.out.symm), (sl1.trans hc0_1.out.symm), HL8.out, by omega, hid (take_more hi hi2 Htk.out (by rw [Hy.out, Hz.out, hyz]))⟩
     omega
   case dep1 =>
     iterate 8 refine dR ?_
     exact depR_nil
  ·skip
   have hi : i = l.length := by have h := h14; simp at h; omega
   have Hf := hid (show decide (l = m) = true from decide_eq_true (by have h1 := Htk.out; rw [hi, List.take_length, Hlen.out, List.take_length] at h1; exact h1))
   repeat ((fail_if_success refine stp ?_); with_reducible go_step)
   clear HL8; clear hc0_0 hc0_1; refine region_F ?_; refine pl ?_; refine listF_abs (fun s15 z' => ?_); have sl4 := gu 4 z'; clear z' sl0 sl1 sl5 sl14; refine listF_nil ?_
   repeat ((fail_if_success refine stp ?_); with_reducible go_step)
   refine ret_F _ (res_t Tryz.results29 ((getD_F (by decide)).trans sl4)) ?_; exact ⟨ret_bool Hf.out.symm, HB.out.toBelow⟩


theorem st_eq (s t : St4) : s = t ↔ s.store = t.store ∧ s.tape = t.tape ∧ s.taken = t.taken ∧ s.printed = t.printed ∧ s.time = t.time ∧ s.pc = t.pc ∧ s.done = t.done ∧ s.why = t.why := by
  cases s; cases t; simp
end

section
open Go.RowKit


/-- no part of a state lies in a block -/
def SA.free (A : SA) (s : St4) (k : Nat) : Prop := (s.store ≠ [] → ∀ b, A.sa = some b → b.block ≠ k) ∧ (s.tape ≠ [] → ∀ b, A.ta = some b → b.block ≠ k) ∧ (s.printed ≠ [] → ∀ b, A.pa = some b → b.block ≠ k)
theorem oldsetN {Bs : List Nat} {w0 w wX : World} (h : w = wX) (ho : OldB Bs w0 wX := by repeat (first | with_reducible exact OldB.refl _ _ | with_reducible refine OldB.set ?_ (by simp))) : OldB Bs w0 w := by rw [h]; exact ho
theorem info_int : (Tryz.prog.info? 3).map (fun i => (i.zero, i.size, i.bytes)) = some (some (.int .i64 0), 1, 8) := by kernel_rfl
theorem int_one (x : Int) : ∀ u ∈ int1 x, u.oneCell' = true := by intro u hu; simp [int1] at hu; subst hu; rfl
theorem ints_cell {w : World} {g : Nat} {l : List Int} (h : Cells w g (l.flatMap int1)) {i : Nat} (hi : i < l.length) : w.cell? ⟨g, i, none⟩ = some (.int .i64 l[i]) := by
  have := h.2.1 (i * 1 + 0) _ (flat_get int1 1 (fun _ => rfl) l i l[i] (List.getElem?_eq_getElem hi) 0 _ rfl)
  simpa using this
theorem ints_set (x : Int) : ∀ (l : List Int) (i : Nat), (l.flatMap int1).set i (.int .i64 x) = (l.set i x).flatMap int1
  | [], i => by simp
  | y :: l, 0 => by simp
  | y :: l, i + 1 => by
    have ih := ints_set x l i
    simp only [List.set_cons_succ, List.flatMap_cons, int1, List.cons_append, List.nil_append] at *
    rw [ih]
theorem step_why {s : St4} {k : Int} (hw : whyOf s = k) (hk : k ≠ 0) {p tk : Nat} (hp : s.pc = p) (htk : s.taken = tk) : step4 s = ⟨s.store, s.tape, (tk : Int), s.printed, s.time, (p : Int), s.done, k⟩ := by
  unfold step4; rw [if_pos (by rw [hw]; exact hk), hw, ← hp, ← htk]
end

section
open Go.RowKit

section
variable {P : Program} (w : World)
end

section
variable {P : Program} {o : Oper} {n d : Nat} {s : Nat → Value} {w : World} {K' : Value → World → Prop} {α : Type} {f : α → List Value} {m : Nat}
end
end

section
open Go.RowKit

abbrev rawR : Value → Option (DataW Value × List MemPlace) := fun v => some (.held v, [])
section
variable {P : Program} {κ : Type} [DecidableEq κ]
/-- block b is a map of at most n entries; at the key of x lies g x -/
def MapV (P : Program) (kt : TypeId) (kv : κ → Value) (w : World) (b n : Nat) (g : κ → Option Value) : Prop :=
  ∃ D : DataW Value, w.ownsMap P kt rawR b n D ∧ Maps.IsMap D ∧ ∀ x kl, keyOf P kt (kv x) = some kl → ∀ zd, D.atKey kl zd = (match g x with | some v => .held v | none => zd)
variable {kt T E : TypeId} {kv : κ → Value} {w w' : World} {b n : Nat} {g : κ → Option Value}
theorem MapV.made (w : World) : MapV P kt kv (w.alloc (.map #[] 0)) w.heap.size 0 (fun _ => none) :=
  ⟨_, World.ownsMap_made _ _ _ _, ⟨_, rfl⟩, fun _ _ _ _ => rfl⟩
theorem MapV.lt (h : MapV P kt kv w b n g) : b < w.heap.size := by obtain ⟨D, h1, _⟩ := h; exact h1.lt
theorem MapV.same (h : MapV P kt kv w b n g) (hb : w'.heap[b]? = w.heap[b]?) : MapV P kt kv w' b n g := by
  obtain ⟨D, ⟨es, clock, h1, h2⟩, h3⟩ := h
  exact ⟨D, ⟨es, clock, hb.trans h1, h2⟩, h3⟩
theorem MapV.at (h : MapV P kt kv w b n g) (hb : Below w.heap.size w w') : MapV P kt kv w' b n g := h.same (hb.block b h.lt)
theorem MapV.oldB {Bs : List Nat} (h : MapV P kt kv w b n g) (ho : OldB Bs w w') (hb : b ∉ Bs) : MapV P kt kv w' b n g := h.same (ho.block b h.lt hb)
theorem MapV.grown (h : MapV P kt kv w b n g) {v : Value} (hg : w.grownBy w' v.ownBlock) (hv : v.ownBlock ≠ some b) : MapV P kt kv w' b n g := h.same (hg.block b h.lt (fun e => hv e.symm))
theorem MapV.mono (h : MapV P kt kv w b n g) {m : Nat} (hm : n ≤ m) : MapV P kt kv w b m g := by
  obtain ⟨D, h1, h3⟩ := h
  exact ⟨D, h1.mono hm, h3⟩
theorem MapV.has (h : MapV P kt kv w b n g) (K : Maps.Keyed P kt) (ht : P.underlying T = some (.map kt E)) {z : Value} (hz : (zeroValue E).run P w = .ok z w) {x : κ} {kl : Lit} (hk : keyOf P kt (kv x) = some kl) (c : Bool) :
    (Instr.lookup T (.map (some b)) (kv x) c).run P w = .ok (if c then .tuple #[(g x).getD z, .bool (g x).isSome] else (g x).getD z) w := by
  obtain ⟨D, h1, _, h3⟩ := h
  have h4 := h3 x kl hk
  have e1 : ∀ {v : Value} {ps : List MemPlace}, rawR v = some (D.atKey kl (.held z), ps) → v = (g x).getD z := by
    intro v ps hv
    have hv' := congrArg (fun o => o.map Prod.fst) hv
    simp only [rawR, Option.map_some, h4, Option.some.injEq] at hv'
    cases hg : g x with
    | none => rw [hg] at hv'; simpa using hv'
    | some y => rw [hg] at hv'; simpa using hv'
  cases c with
  | false =>
    obtain ⟨v, ps, hr, hv⟩ := h1.lookup K ht hz (zd := .held z) (zp := []) rfl hk
    rw [hr, e1 hv]; rfl
  | true =>
    obtain ⟨v, ps, hr, hv⟩ := h1.look_ok K ht hz (zd := .held z) (zp := []) rfl hk
    have e2 : Maps.has D kl = (g x).isSome := by
      cases hg : g x with
      | none => rw [hg] at h4; exact Maps.has_false_of_atKey h4
      | some y => rw [hg] at h4; exact Maps.has_true_of_atKey h4
    rw [hr, e1 hv, e2]; rfl
theorem MapV.put (h : MapV P kt kv w b n g) (K : Maps.Keyed P kt) (ht : P.underlying T = some (.map kt E)) (hn : n < 9223372036854775807) (hinj : ∀ x y : κ, kv x = kv y → x = y) {x : κ} {kl : Lit} (hk : keyOf P kt (kv x) = some kl) (v : Value) :
    ∃ w', (Instr.mapUpdate T (.map (some b)) (kv x) v).run P w = .ok () w' ∧ MapV P kt kv w' b (n + 1) (fun y => if y = x then some v else g y) ∧ OldB [b] w w' := by
  obtain ⟨D, h1, h2, h3⟩ := h
  obtain ⟨w', hr, ho, hg⟩ := h1.update K ht (show n < maxLen by unfold maxLen; omega) hk (d := .held v) (ps := []) (val := v) rfl
  refine ⟨w', hr, ⟨_, ho, h2.put _ _, ?_⟩, ⟨hg.os, hg.tape, hg.output, hg.size, fun k hk hn => hg.block k hk (fun e => hn (by simpa using e))⟩⟩
  intro y kl' hk' zd
  simp only
  by_cases e : y = x
  · subst e
    rw [hk] at hk'; cases hk'
    simp only [if_pos]; rw [Maps.atKey_put_same h2 (K.key hk)]
  · simp only [if_neg e]; rw [Maps.atKey_put_other (fun e2 => e (hinj _ _ (K.inj (by rw [hk', e2]) hk)))]
    exact h3 y kl' hk' zd
end

section
variable {P : Program} {o : Oper} {n d : Nat} {s : Nat → Value} {w : World} {K' : Value → World → Prop} {κ : Type} [DecidableEq κ] {kt T E : TypeId} {kv : κ → Value} {b k : Nat} {g : κ → Option Value}
theorem opF_look (hd : o.dst = some d) (hn : d < n) (m y : Operand) (c : Bool) (ho : o.op = .lookup T m y c) (K : Maps.Keyed P kt) (ht : P.underlying T = some (.map kt E)) {z : Value} (hz : (zeroValue E).run P w = .ok z w) (h : MapV P kt kv w b k g)
    (x : κ) (hm : evF n s m = .map (some b)) (hy : evF n s y = kv x) {kl : Lit} (hk : keyOf P kt (kv x) = some kl) (hK : K' (if c then .tuple #[(g x).getD z, .bool (g x).isSome] else (g x).getD z) w) : opF P o n s w K' := by
  refine opF_of_wp hd hn (fun K1 Q hK1 => ?_)
  unfold Oper.wp execOp
  simp only [ho, Sem.run_bind, Sem.run_pure, Result.andThen_ok, mkA_eval, hm, hy, h.has K ht hz hk c]
  exact hK1 _ _ hK
theorem opF_makeMap (hd : o.dst = some d) (hn : d < n) (ho : o.op = .makeMap T none)
    (hK : ∀ w', MapV P kt kv w' w.heap.size 0 (fun _ => none) → Below w.heap.size w w' → K' (.map (some w.heap.size)) w') : opF P o n s w K' := by
  refine opF_of_wp hd hn (fun K1 Q hK1 => ?_)
  unfold Oper.wp execOp
  simp only [ho, Option.map_none, Sem.run_bind, run_makeMap, Sem.run_pure, Result.andThen_ok]
  exact hK1 _ _ (hK _ (MapV.made w) (below_alloc1 _ _))
theorem opF_put (m y v : Operand) (ho : o.op = .mapUpdate T m y v) (K : Maps.Keyed P kt) (ht : P.underlying T = some (.map kt E)) (h : MapV P kt kv w b k g) (hk9 : k < 9223372036854775807) (hinj : ∀ x y : κ, kv x = kv y → x = y)
    (x : κ) (hm : evF n s m = .map (some b)) (hy : evF n s y = kv x) {kl : Lit} (hk : keyOf P kt (kv x) = some kl)
    (hK : ∀ w', MapV P kt kv w' b (k + 1) (fun y => if y = x then some (evF n s v) else g y) → OldB [b] w w' → K' undef w') : opF P o n s w K' := by
  obtain ⟨w', hr, h1, h2⟩ := h.put K ht hk9 hinj hk (evF n s v)
  unfold opF execOp
  simp only [ho, hm, hy, Sem.run_bind, Sem.run_pure, hr, Result.andThen_ok]
  exact hK w' h1 h2
end

/-- a range over a function of ours; rounds may return -/
theorem wp_range_r {P : Program} {α : Type} {g : Operand} {ps : Array Tmp} {assign body : Code} {Q : Exit → Act → World → Prop} {a : Act} {w : World} {gf : Nat} {lb : Array Value} (enc : α → Array Value)
    (hg : a.eval g = .func (.func gf) #[] lb) (eg : ∀ args w, (callFunc gf args).run P w = .ok (.enter gf args) w) (hps : ∀ x, (enc x).size = ps.size)
    (J : List α → World → Prop) (M : List α → α → World → Prop) (Fin : List α → Prop) (Dn : World → Prop)
    (hJ : ∀ pre W r r', J pre W → LoopAt W w.heap.size r → J pre (W.putObj (w.heap.size + 1) (.loop r')))
    (hD : ∀ W r r', Dn W → LoopAt W w.heap.size r → Dn (W.putObj (w.heap.size + 1) (.loop r')))
    (h0 : ∀ r, J [] ((w.alloc (.deferred (some []))).alloc (.loop r)))
    (hiter : ∀ (r r' : Loop) (W : World), J [] W → LoopAt W w.heap.size r →
      (∀ pre x W1, M pre x W1 → LoopAt W1 w.heap.size r → YieldAt Fence.wide 0 P (w.heap.size + 1) (enc x) W1 fun e W' => (e = .returned (.bool true) ∧ J (pre ++ [x]) W' ∧ LoopAt W' w.heap.size r) ∨ (e = .returned (.bool false) ∧ Dn W' ∧ LoopAt W' w.heap.size r')) →
      Calls P gf (#[.func (.yield (w.heap.size + 1)) #[] #[]] ++ lb) W fun e W' => (∃ v, e = .returned v) ∧ ((∃ xs, J xs W' ∧ Fin xs ∧ LoopAt W' w.heap.size r) ∨ (Dn W' ∧ LoopAt W' w.heap.size r')))
    (hround : ∀ pre x W r, M pre x W → LoopAt W w.heap.size r →
      assign.wpIn (Fence.wide.inRound (w.heap.size + 1)) 0 P (Exit.then (fun a₁ W₁ => LoopAt W₁ w.heap.size r ∧ ∀ r', body.wpIn (Fence.wide.inRound (w.heap.size + 1)) 0 P (fun e _ W' => (e = .normal ∧ J (pre ++ [x]) W' ∨ e = .ret ∧ Dn W') ∧ LoopAt W' w.heap.size r') a₁ (W₁.putObj (w.heap.size + 1) (.loop r'))) (fun _ _ _ => False))
        { tmps := (ps.zip (enc x)).foldl (fun t (p, v) => t.setIfInBounds p v) a.tmps, defers := [] } W)
    (hdone : ∀ xs W, J xs W → Fin xs → W.heap[w.heap.size]? = some (.deferred (some [])) → Q .normal { a with defers := { target := .collected w.heap.size, args := #[] } :: a.defers } W)
    (hleave : ∀ W, Dn W → W.heap[w.heap.size]? = some (.deferred (some [])) → Q .ret { a with defers := { target := .collected w.heap.size, args := #[] } :: a.defers } W) :
    (Code.rangeFunc g ps assign body).wp P Q a w := by
  refine (wpIn_wide (n := 0)).1 (wpIn_rangeFunc ?_)
  intro fn hfn
  let rec0 : Loop := { state := .ready, pending := none, fn := fn, tmps := a.tmps, params := ps, assign := assign, body := body, defers := w.heap.size }
  let recD : Loop := { rec0 with state := .done, pending := some .ret }
  let W1 : World := (w.alloc (.deferred (some []))).alloc (.loop rec0)
  have hL1 : LoopAt W1 w.heap.size rec0 := by
    refine ⟨?_, ?_⟩
    · have := World.alloc_heap_new (w.alloc (.deferred (some []))) (.loop rec0)
      rwa [World.size_alloc] at this
    · exact (Below.heap_alloc _ _ _ (by simp)).trans (World.alloc_heap_new w _)
  refine ⟨w.heap.size + 1, [{ target := .collected w.heap.size, args := #[] }], W1, { target := .fn (.func gf) lb, args := #[.func (.yield (w.heap.size + 1)) #[] #[]] }, W1, gf,
    #[.func (.yield (w.heap.size + 1)) #[] #[]] ++ lb, W1, run_enterLoop_outer _ _ _ _ _, ?_, fun _ _ => trivial, ?_, fun h => (by simp [Fence.wide] at h), ?_⟩
  · simp only [resolve, hg]
    simp [go_sem]
  · simp [invoke, go_sem, eg]
  · refine callsIn_wide.2 ((hiter rec0 recD W1 (h0 rec0) hL1 ?_).mono ?_)
    · intro pre x W hm hl
      refine ⟨fn, _, assign, body, run_yield (P := P) (args := enc x) hl.1 (by show _ = ps.size; exact hps x), roundIn_of_wpIn trivial ?_⟩
      refine wpIn_mono (hround pre x W rec0 hm hl) ?_
      intro e a1 W2 h
      cases e with
      | normal =>
        obtain ⟨hl2, hb⟩ := h
        refine ⟨_, run_beginRound hl2.1 rfl, wpIn_mono (hb _) ?_⟩
        rintro e a3 W3 ⟨⟨rfl, hj3⟩ | ⟨rfl, hd3⟩, hl3⟩
        · exact ⟨_, _, run_endRound none hl3.1, .inl ⟨rfl, hJ _ _ _ _ hj3 hl3, hl3.put⟩⟩
        · exact ⟨_, _, run_endRound (some .ret) hl3.1, .inr ⟨rfl, hD _ _ _ hd3 hl3, hl3.put⟩⟩
      | exit id => exact h
      | goto t => exact h
      | ret => exact h
      | panic ch => exact h
      | outgrown => exact h
    · rintro e W2 ⟨⟨v, rfl⟩, ⟨xs, hj, hf, hl⟩ | ⟨hd, hl⟩⟩
      · exact ⟨none, _, run_endLoop (P := P) hl.1 (by show LoopState.ready ≠ LoopState.busy; decide), hdone xs _ (hJ _ _ _ _ hj hl) hf ((World.putObj_heap_other (by omega)).trans hl.2)⟩
      · refine ⟨some .ret, _, run_endLoop (P := P) hl.1 (by show LoopState.done ≠ LoopState.busy; decide), ?_⟩
        exact wpIn_ret (hleave _ (hD _ _ _ hd hl) ((World.putObj_heap_other (by omega)).trans hl.2))

theorem yield_mono {F : Fence} {m : Nat} {P : Program} {l : Nat} {args : Array Value} {W : World} {R R' : Ending → World → Prop} (h : YieldAt F m P l args W R) (hr : ∀ e w, R e w → R' e w) : YieldAt F m P l args W R' := by
  obtain ⟨fn, tmps, assign, body, h1, h2⟩ := h
  exact ⟨fn, tmps, assign, body, h1, RoundIn.mono h2 hr⟩
theorem LoopAt.oldB {W W' : World} {l : Nat} {r : Loop} {Bs : List Nat} (h : LoopAt W l r) (ho : OldB Bs W W') (hb : ∀ b ∈ Bs, b ≠ l ∧ b ≠ l + 1) : LoopAt W' l r :=
  ⟨(ho.block _ (Array.getElem?_eq_some_iff.1 h.1).1 (fun hm => (hb _ hm).2 rfl)).trans h.1, (ho.block _ (Array.getElem?_eq_some_iff.1 h.2).1 (fun hm => (hb _ hm).1 rfl)).trans h.2⟩
theorem wpIn_abs {P : Program} {F : Fence} {m n : Nat} {c : Code} {Q : Exit → Act → World → Prop} {ds : List Deferred} {S : Nat → Value} {w : World} (h : ∀ s', s' = S → c.wpIn F m P Q (mkA n s' ds) w) : c.wpIn F m P Q (mkA n S ds) w := h S rfl
theorem callQ {P : Program} {f : FuncId} {args : Array Value} {w0 w : World} {v : Value} (h : Calls P f args w fun e w' => e = .returned v ∧ Below w.heap.size w w') (hb : Below w0.heap.size w0 w) : Calls P f args w fun e w'' => e = .returned v ∧ Below w0.heap.size w0 w'' :=
  h.mono fun _ _ h => ⟨h.1, hb.trans (h.2.mono hb.size)⟩
theorem oldB_grown {w w' : World} {row : Option Nat} {Bs : List Nat} (hg : w.grownBy w' row) (hr : ∀ g, row = some g → g ∈ Bs) : OldB Bs w w' :=
  ⟨hg.os, hg.tape, hg.output, hg.size, fun k hk hn => hg.block k hk (fun e => hn (hr k e.symm))⟩
theorem Rd.oldN {α : Type} {f : α → List Value} {m : Nat} {w w' : World} {Bs : List Nat} {a : Option Addr} {l : List α} (h : Rd f m w a l) (ho : OldB Bs w w') (hn : l ≠ [] → ∀ b, a = some b → b.block ∉ Bs) : Rd f m w' a l := by
  by_cases e : l = []
  · exact .inl e
  · exact Rd.oldB h ho (hn e)
theorem hmf (fn : Fn) (first cap : Array Value) (w : World) : (Instr.makeFunc fn first cap).run Tryz.prog w = .ok (.func fn first cap) w := rfl
end


end Go.Proofs.YtleknidlgmmgbaaGreat
