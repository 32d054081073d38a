/- The program's order: the small functions. -/
import Derived.Test.YtleknidlgmmgbaaGreattoT3
import Derived.Test.YtleknidlgmmgbaaGreattoG7
import Derived.Test.YtleknidlgmmgbaaGreattoG13
import Derived.Test.YtleknidlgmmgbaaGreattoCZ
set_option linter.all false
set_option maxRecDepth 100000
set_option maxHeartbeats 1000000
namespace Go.Proofs.YtleknidlgmmgbaaGreat

section
theorem sign_bd {w : Int} (h : 0 ≤ w ∧ w ≤ 16777215) : -8388608 ≤ signI w ∧ signI w ≤ 8388607 := by unfold signI; split <;> omega
theorem sprod_bd {a b : Int} (ha : 0 ≤ a ∧ a ≤ 16777215) (hb : 0 ≤ b ∧ b ≤ 16777215) : -70368744177664 ≤ signI a * signI b ∧ signI a * signI b ≤ 70368744177664 := by
  have h1 := sign_bd ha
  have h2 := sign_bd hb
  have k1 : signI a * signI b ≤ (signI a).natAbs * (signI b).natAbs := by
    have := Int.le_natAbs (a := signI a * signI b)
    rw [Int.natAbs_mul] at this
    exact_mod_cast this
  have k2 : -((signI a).natAbs * (signI b).natAbs : Int) ≤ signI a * signI b := by
    have := Int.le_natAbs (a := -(signI a * signI b))
    rw [Int.natAbs_neg, Int.natAbs_mul] at this
    have h : -(signI a * signI b) ≤ ((signI a).natAbs * (signI b).natAbs : Int) := by exact_mod_cast this
    omega
  have k3 : (signI a).natAbs * (signI b).natAbs ≤ 8388608 * 8388608 := Nat.mul_le_mul (by omega) (by omega)
  have k4 : ((signI a).natAbs : Int) * ((signI b).natAbs : Int) ≤ 70368744177664 := by have := Int.ofNat_le.2 k3; rw [Int.natCast_mul] at this; omega
  omega
end

section
open Go.RowKit

abbrev int1 (n : Int) : List Value := [.int .i64 n]
abbrev RdInts := Rd int1 1
theorem RdInts.ne {w : World} {a : Option Addr} {l : List Int} (h : RdInts w a l) {k : Nat} (hk : k < l.length) :
    ∃ b off, a = some ⟨b, off, none⟩ ∧ b < w.heap.size ∧ w.cell? ⟨b, off + k, none⟩ = some (.int .i64 l[k]) := by
  obtain ⟨b, off, ha, hb, hc⟩ := Rd.ne h hk; exact ⟨b, off, ha, hb, by simpa using hc 0 _ rfl⟩
theorem rd_at1 {w : World} {b off : Nat} {l : List Int} (h : RdInts w (some ⟨b, off, none⟩) l) {k : Nat} (hk : k < l.length) {y : Int} (hy : l[k] = y) : w.cell? ⟨b, off + k, none⟩ = some (.int .i64 y) := by
  subst hy; obtain ⟨b', o', ha, _, h1⟩ := RdInts.ne h hk
  cases ha
  exact h1
theorem getD_get {α : Type} {l : List α} {i : Nat} (h : i < l.length) (d : α) : l.getD i d = l[i] := by
  rw [List.getD_eq_getElem?_getD, List.getElem?_eq_getElem h]; rfl
theorem oddU_found {l : List Int} : ∀ {n i : Nat}, i < n → (∀ j, j < i → wordB (l.getD j 0) = true) → wordB (l.getD i 0) = false → oddU l n = i
  | 0, i, h, _, _ => by omega
  | n + 1, i, h, h1, h2 => by
    unfold oddU
    by_cases e : i = n
    · subst e
      have := oddU_neg.2 h1; rw [if_neg (by omega), if_neg (by rw [h2]; decide)]
    · rw [oddU_found (by omega) h1 h2, if_pos (by omega)]
theorem oddU_none {l : List Int} : ∀ {n : Nat}, (∀ j, j < n → wordB (l.getD j 0) = true) → oddU l n = -1
  | 0, _ => rfl
  | n + 1, h => by
    unfold oddU; rw [oddU_none (fun j hj => h j (by omega)), if_neg (by omega), if_pos (h n (by omega))]
theorem take_more {α : Type} [DecidableEq α] {x y : List α} {k : Nat} (hx : k < x.length) (hy : k < y.length) (h : x.take k = y.take k) (hk : x[k] = y[k]) : x.take (k + 1) = y.take (k + 1) := by
  rw [List.take_succ_eq_append_getElem hx, List.take_succ_eq_append_getElem hy, h, hk]
theorem load_t27 {w : World} {b o : Nat} {x0 x1 x2 x3 : Value} (h0 : w.cell? ⟨b, o, none⟩ = some x0) (h1 : w.cell? ⟨b, o + 1, none⟩ = some x1) (h2 : w.cell? ⟨b, o + 2, none⟩ = some x2) (h3 : w.cell? ⟨b, o + 3, none⟩ = some x3) :
    (loadVar 27 ⟨b, o, none⟩).run Tryz.prog w = .ok (.agg #[x0, x1, x2, x3]) w := by
  simp [go_sem, h0, h1, h2, h3]
theorem load_t24 {w : World} {b o : Nat} {x0 x1 x2 x3 x4 x5 x6 x7 : Value} (h0 : w.cell? ⟨b, o, none⟩ = some x0) (h1 : w.cell? ⟨b, o + 1, none⟩ = some x1) (h2 : w.cell? ⟨b, o + 2, none⟩ = some x2) (h3 : w.cell? ⟨b, o + 3, none⟩ = some x3) (h4 : w.cell? ⟨b, o + 4, none⟩ = some x4) (h5 : w.cell? ⟨b, o + 5, none⟩ = some x5) (h6 : w.cell? ⟨b, o + 6, none⟩ = some x6) (h7 : w.cell? ⟨b, o + 7, none⟩ = some x7) :
    (loadVar 24 ⟨b, o, none⟩).run Tryz.prog w = .ok (.agg #[x0, x1, x2, x3, x4, x5, x6, x7]) w := by
  simp [go_sem, h0, h1, h2, h3, h4, h5, h6, h7]
theorem load_t29 {w : World} {b o : Nat} {x0 x1 x2 x3 x4 x5 x6 : Value} (h0 : w.cell? ⟨b, o, none⟩ = some x0) (h1 : w.cell? ⟨b, o + 1, none⟩ = some x1) (h2 : w.cell? ⟨b, o + 2, none⟩ = some x2) (h3 : w.cell? ⟨b, o + 3, none⟩ = some x3) (h4 : w.cell? ⟨b, o + 4, none⟩ = some x4) (h5 : w.cell? ⟨b, o + 5, none⟩ = some x5) (h6 : w.cell? ⟨b, o + 6, none⟩ = some x6) :
    (loadVar 29 ⟨b, o, none⟩).run Tryz.prog w = .ok (.agg #[x0, x1, x2, x3, x4, x5, x6]) w := by
  simp [go_sem, h0, h1, h2, h3, h4, h5, h6]
theorem rin04_any (n a b : Int) (w : World) :
    Calls Tryz.prog 105 #[.int .i64 n, .int .i64 a, .int .i64 b] w (fun e w' => e = .returned (.bool (inI n a b)) ∧ w = w') := by
 refine enter_F Tryz.func105 rfl Tryz.ntmps105 (by simp) ?_
 intro s0 hs; have sl0 : s0 0 = .int .i64 n := hs 0 (by simp); have sl1 : s0 1 = .int .i64 a := hs 1 (by simp); have sl2 : s0 2 = .int .i64 b := hs 2 (by simp); clear hs; have HB := hid (OldB.refl [] w)
 refine nr ?_; intros; refine pl ?_; refine lx [] ?_; clear sl0 sl1 sl2; intro _ sl0 sl1 sl2; refine lr ?_; intros
 refine P4 ?_
 clear sl1; refine lx [10] ?_; clear sl0 sl2; intro _ sl0 sl2 sl10
 refine boolG sl10 (fun sl10' h10 => ?_) (fun sl10' h10 => ?_) <;> (clear sl10; have sl10 := sl10'; clear sl10')
 ·skip
  iterate 3 refine py ?_
  refine P2 ?_; clear sl0 sl2 sl10; refine lx [6] ?_; intro _ sl6; refine ln ?_; intros
  refine ret_F _ (res_t Tryz.results105 ((getD_F (by decide)).trans sl6)) ?_; exact ⟨ret_bool (by unfold inI; simp at *; try omega), rfl⟩
 ·skip
  refine F3 ?_; refine P2 ?_; clear sl0 sl2 sl10; refine lx [6] ?_; intro _ sl6; refine ln ?_; intros
  refine ret_F _ (res_t Tryz.results105 ((getD_F (by decide)).trans sl6)) ?_; exact ⟨ret_bool (by unfold inI; simp at *; try omega), rfl⟩

theorem rword_any (n : Int) (w : World) :
    Calls Tryz.prog 87 #[.int .i64 n] w (fun e w' => e = .returned (.bool (wordB n)) ∧ w = w') := by
 refine enter_F Tryz.func87 rfl Tryz.ntmps87 (by simp) ?_
 intro s0 hs; have sl0 : s0 0 = .int .i64 n := hs 0 (by simp); clear hs; have HB := hid (OldB.refl [] w)
 refine nr ?_; intros; refine pl ?_; refine lx [] ?_; clear sl0; intro _ sl0; refine lr ?_; intros; refine pl ?_; refine cal (rin04_any n 0 16777215 _) ?_; rintro e w' ⟨rfl, rfl⟩; refine ⟨_, rfl, ?_⟩; refine pl ?_; clear sl0; refine lx [2] ?_; intro _ sl2; refine ln ?_; intros
 refine ret_F _ (res_t Tryz.results87 ((getD_F (by decide)).trans sl2)) ?_; exact ⟨rfl, rfl⟩

theorem raddr_any (n : Int) (w : World) :
    Calls Tryz.prog 84 #[.int .i64 n] w (fun e w' => e = .returned (.bool (addrB n)) ∧ w = w') := by
 refine enter_F Tryz.func84 rfl Tryz.ntmps84 (by simp) ?_
 intro s0 hs; have sl0 : s0 0 = .int .i64 n := hs 0 (by simp); clear hs; have HB := hid (OldB.refl [] w)
 refine nr ?_; intros; refine pl ?_; refine lx [] ?_; clear sl0; intro _ sl0; refine lr ?_; intros; refine pl ?_; refine cal (rin04_any n 0 127 _) ?_; rintro e w' ⟨rfl, rfl⟩; refine ⟨_, rfl, ?_⟩; refine pl ?_; clear sl0; refine lx [2] ?_; intro _ sl2; refine ln ?_; intros
 refine ret_F _ (res_t Tryz.results84 ((getD_F (by decide)).trans sl2)) ?_; exact ⟨rfl, rfl⟩

theorem t1O_bd (o : Ord) (t : Int) : t ≤ t1O o t ∧ t1O o t ≤ t + 16 := by have := afterT_gt t o.fr; unfold t1O; split <;> omega
theorem t2O_bd (o : Ord) (t : Int) : t ≤ t2O o t ∧ t2O o t ≤ t + 32 := by have h1 := t1O_bd o t; have := afterT_gt (t1O o t) o.tt; unfold t2O; split <;> omega
theorem nextO_bd {o : Ord} (b : Bool) (ho : (0 ≤ o.op ∧ o.op ≤ 7) ∧ (0 ≤ o.fr ∧ o.fr ≤ 127) ∧ (0 ≤ o.tt ∧ o.tt ≤ 127) ∧ (0 ≤ o.nx ∧ o.nx ≤ 127)) : 0 ≤ nextO o b ∧ nextO o b ≤ 127 := by unfold nextO; split <;> omega

theorem rodd_any (a : Option Addr) (c : Nat) (l : List Int) (w : World) (hR : RdInts w a l) (hl : l.length ≤ 9223372036854775807) :
    Calls Tryz.prog 100 #[.slice a l.length c] w (fun e w' => e = .returned (.int .i64 (oddI l)) ∧ Below w.heap.size w w') := by
 have HR := hid hR; clear hR
 refine enter_F Tryz.func100 rfl Tryz.ntmps100 (by simp) ?_
 intro s0 hs; have sl0 : s0 0 = .slice a l.length c := hs 0 (by simp); clear hs; have HB := hid (OldB.refl [] w)
 refine nr ?_; intros; refine pl ?_; refine lx [] ?_; clear sl0; intro s1 sl0; refine lr ?_; intros; refine pl ?_; refine lx [3] ?_; clear sl0; intro s2 sl0 sl3; refine ln ?_; intros
 have hc0_0 := hid sl0; refine loop_F (n := 17) (fun kJ sJ wJ => ∃ (i : Nat), kJ = l.length - i ∧ sJ 3 = .int .i64 (i : Int) ∧ sJ 0 = s2 0 ∧ OldB [] w wJ ∧ i ≤ l.length ∧ (Hid (∀ j, j < i → wordB (l.getD j 0) = true))) ⟨0, rfl, (by first | exact sl3 | (rw [sl3]; go_num) | (rw [sl3]; rfl)), rfl, OldB.refl _ _, Nat.zero_le _, hid (fun j hj => by omega)⟩ ?_; clear sl3; rintro kJ s3 w4 ⟨i, rfl, sl3, e0, hb5, hil, Hall⟩; replace sl0 := e0.trans sl0; clear e0; have hoJ := hb5; replace HB := mO HB hb5; clear hb5; have HoJ := hid hoJ; clear hoJ; have HL6 := HoJ; clear HoJ
 refine nr ?_; intros
 refine P4 ?_
 refine lx [7] ?_; clear sl0 sl3; intro s7 sl0 sl3 sl7; refine ln ?_; intros
 refine cond_E sl7 (by decide) ?_ ?_ <;> (clear sl7; intro h7 sl7)
 ·skip
  have hi : i < l.length := by simpa using h7
  have hii : (i : Int) < l.length := by omega
  obtain ⟨b, off, rfl, hb, c0⟩ := RdInts.ne (Rd.oldB HR.out HB.out (by simp)) hi; obtain ⟨y, hy⟩ : ∃ z, l[i] = z := ⟨_, rfl⟩; rw [hy] at c0; have Hy := hid (show l.getD i 0 = y by rw [getD_get hi, hy]); clear hy
  refine nr ?_; intros
  refine P4 ?_
  refine cal (rword_any y _) ?_; rintro e w' ⟨rfl, rfl⟩; refine ⟨_, rfl, ?_⟩; refine pl ?_; clear sl7; refine lx [15] ?_; clear sl0 sl3; intro s9 sl0 sl3 sl15; refine ln ?_; intros
  refine cond_E sl15 (by decide) ?_ ?_ <;> (clear sl15; intro h15 sl15)
  ·skip
   have Hf := hid (show oddI l = i from oddU_found hi Hall.out (by rw [Hy.out]; simpa using h15))
   refine nr ?_; intros; refine P2 ?_; clear sl0 sl3 sl15; refine lx [2] ?_; intro s10 sl2; refine ln ?_; intros
   refine ret_F _ (res_t Tryz.results100 ((getD_F (by decide)).trans sl2)) ?_; exact ⟨ret_int Hf.out.symm, HB.out.toBelow⟩
  ·skip
   have Hw := hid (show wordB (l.getD i 0) = true by rw [Hy.out]; simpa using h15)
   refine nr ?_; intros
   refine P3 ?_
   clear sl3 sl15; refine lx [3] ?_; clear sl0; intro s11 sl0 sl3; refine ln ?_; intros
   refine ⟨_, _, rfl, ?_, i + 1, rfl, (rL sl3), (sl0.trans hc0_0.out.symm), HL6.out, by omega, hid (fun j hj => by rcases Nat.lt_or_ge j i with h | h <;> first | exact Hall.out j h | (have e : j = i := (by omega); subst e; exact Hw.out))⟩
   omega
 ·skip
  have hi : i = l.length := by have h := h7; simp at h; omega
  have Hn := hid (show oddI l = -1 from oddU_none (fun j hj => Hall.out j (by omega)))
  refine zx ?_; intros
  clear HL6; clear hc0_0; refine region_F ?_; refine pl ?_; clear sl0 sl3 sl7; refine lx [2] ?_; intro s12 sl2; refine ln ?_; intros
  refine ret_F _ (res_t Tryz.results100 ((getD_F (by decide)).trans sl2)) ?_; exact ⟨ret_int Hn.out.symm, HB.out.toBelow⟩
end

section
open Go.RowKit


structure SA where
  sa : Option Addr
  sc : Nat
  ta : Option Addr
  tc : Nat
  pa : Option Addr
  pc : Nat
/-- the cells of a state -/
abbrev stC (s : St4) (A : SA) : List Value := [.slice A.sa s.store.length A.sc, .slice A.ta s.tape.length A.tc, .int .i64 s.taken, .slice A.pa s.printed.length A.pc, .int .i64 s.time, .int .i64 s.pc, .int .i64 s.done, .int .i64 s.why]
structure RdSt (w : World) (s : St4) (A : SA) : Prop where
  st : RdInts w A.sa s.store
  tp : RdInts w A.ta s.tape
  pr : RdInts w A.pa s.printed
theorem RdSt.at {w w' : World} {s : St4} {A : SA} (h : RdSt w s A) (hb : Below w.heap.size w w') : RdSt w' s A := ⟨Rd.at h.st hb, Rd.at h.tp hb, Rd.at h.pr hb⟩
theorem RdSt.old {w w' : World} {s : St4} {A : SA} (h : RdSt w s A) (ho : OldB [] w w') : RdSt w' s A := ⟨Rd.oldB h.st ho (by simp), Rd.oldB h.tp ho (by simp), Rd.oldB h.pr ho (by simp)⟩
def LenI (s : St4) : Prop := s.store.length ≤ 9223372036854775807 ∧ s.tape.length ≤ 9223372036854775807 ∧ s.printed.length ≤ 9223372036854775807
theorem chk_1 {s : St4} (h : s.store.length ≠ 128 ∨ 200 < s.tape.length ∨ 200 < s.printed.length) : chk4 s = (1, 0, 3) := by unfold chk4; rw [if_pos h]
theorem chk_2 {s : St4} (h : ¬ (s.store.length ≠ 128 ∨ 200 < s.tape.length ∨ 200 < s.printed.length)) (g : 0 ≤ oddI s.store) : chk4 s = (2, oddI s.store, 7) := by unfold chk4; rw [if_neg h, if_pos g]
theorem chk_3 {s : St4} (h : ¬ (s.store.length ≠ 128 ∨ 200 < s.tape.length ∨ 200 < s.printed.length)) (g : ¬ 0 ≤ oddI s.store) (g2 : 0 ≤ oddI s.tape) : chk4 s = (3, oddI s.tape, 7) := by unfold chk4; rw [if_neg h, if_neg g, if_pos g2]
theorem chk_4 {s : St4} (h : ¬ (s.store.length ≠ 128 ∨ 200 < s.tape.length ∨ 200 < s.printed.length)) (g : ¬ 0 ≤ oddI s.store) (g2 : ¬ 0 ≤ oddI s.tape) (g3 : 0 ≤ oddI s.printed) : chk4 s = (4, oddI s.printed, 7) := by unfold chk4; rw [if_neg h, if_neg g, if_neg g2, if_pos g3]
def numB (s : St4) : Bool := !inI s.taken 0 s.tape.length || !inI s.time 0 1000000000 || !addrB s.pc || !inI s.done 0 s.time || !inI s.why 0 4
theorem chk_5 {s : St4} (h : ¬ (s.store.length ≠ 128 ∨ 200 < s.tape.length ∨ 200 < s.printed.length)) (g : ¬ 0 ≤ oddI s.store) (g2 : ¬ 0 ≤ oddI s.tape) (g3 : ¬ 0 ≤ oddI s.printed) (g4 : numB s = true) : chk4 s = (5, 0, 7) := by
  unfold chk4; rw [if_neg h, if_neg g, if_neg g2, if_neg g3, if_pos]; unfold numB at g4
  simp only [Bool.or_eq_true, Bool.not_eq_true'] at g4
  rcases g4 with (((h1 | h1) | h1) | h1) | h1
  · exact .inl h1
  · exact .inr (.inl h1)
  · exact .inr (.inr (.inl h1))
  · exact .inr (.inr (.inr (.inl h1)))
  · exact .inr (.inr (.inr (.inr h1)))
theorem num_of {s : St4} (g4 : numB s = false) : (0 ≤ s.taken ∧ s.taken ≤ s.tape.length) ∧ (0 ≤ s.time ∧ s.time ≤ 1000000000) ∧ (0 ≤ s.pc ∧ s.pc ≤ 127) ∧ (0 ≤ s.done ∧ s.done ≤ s.time) ∧ (0 ≤ s.why ∧ s.why ≤ 4) := by
  unfold numB at g4
  simp only [Bool.or_eq_false_iff, Bool.not_eq_false', addrB, inI_iff] at g4
  exact ⟨g4.1.1.1.1, g4.1.1.1.2, g4.1.1.2, g4.1.2, g4.2⟩
theorem chk_6 {s : St4} (h : ¬ (s.store.length ≠ 128 ∨ 200 < s.tape.length ∨ 200 < s.printed.length)) (g : ¬ 0 ≤ oddI s.store) (g2 : ¬ 0 ≤ oddI s.tape) (g3 : ¬ 0 ≤ oddI s.printed) (g4 : numB s = false) : chk4 s = if s.time % 16 ≠ s.pc % 16 then (6, 0, 2) else (0, 0, 0) := by
  unfold chk4; rw [if_neg h, if_neg g, if_neg g2, if_neg g3, if_neg]; unfold numB at g4
  simp only [Bool.or_eq_false_iff, Bool.not_eq_false'] at g4
  simp [g4]

theorem XW9b {A B1 : Prop} (hX1 : B1) (e : B1 → A := by exact ret_F _ (res_t Tryz.results29 ((getD_F (by decide)).trans sl4))) : A := e hX1
theorem rints_any (al : Option Addr) (cl : Nat) (l : List Int) (am : Option Addr) (cm : Nat) (m : List Int) (w : World) (hRl : RdInts w al l) (hRm : RdInts w am m) (hll : l.length ≤ 9223372036854775807) (hlm : m.length ≤ 9223372036854775807) :
    Calls Tryz.prog 29 #[.slice al l.length cl, .slice am m.length cm] w (fun e w' => e = .returned (.bool (decide (l = m))) ∧ Below w.heap.size w w') := by
 have HRl := hid hRl; have HRm := hid hRm; clear hRl hRm
 refine enter_F Tryz.func29 rfl Tryz.ntmps29 (by simp) ?_
 intro s0 hs; have sl0 : s0 0 = .slice al l.length cl := hs 0 (by simp); have sl1 : s0 1 = .slice am m.length cm := hs 1 (by simp); clear hs; have HB := hid (OldB.refl [] w)
 refine nr ?_; intros; refine pl ?_; refine lx [] ?_; clear sl0 sl1; intro _ sl0 sl1; refine lr ?_; intros
 refine P5 ?_
 refine lx [10] ?_; clear sl0 sl1; intro _ sl0 sl1 sl10; refine ln ?_; intros
 refine cond_E sl10 (by decide) ?_ ?_ <;> (clear sl10; intro h10 sl10)
 ·skip
  have Hf := hid (show decide (l = m) = false from decide_eq_false (fun e => by have h := h10; rw [e] at h; simp at h))
  refine nr ?_; intros; refine pl ?_; clear sl0 sl1 sl10; refine lx [4] ?_; intro _ sl4; refine ln ?_; intros
  refine XW9b ?_; exact ⟨ret_bool Hf.out.symm, HB.out.toBelow⟩
 ·skip
  have hlen : (l.length : Int) = m.length := by have h := h10; simp at h; omega
  have Hlen := hid (show l.length = m.length by omega); clear hlen
  refine nr ?_; intros; refine pl ?_; clear sl10; refine lx [5] ?_; clear sl0 sl1; intro s4 sl0 sl1 sl5; refine ln ?_; intros
  have hc0_0 := hid sl0; have hc0_1 := hid sl1; refine loop_F (n := 26) (fun kJ sJ wJ => ∃ (i : Nat), kJ = l.length - i ∧ sJ 5 = .int .i64 (i : Int) ∧ sJ 0 = s4 0 ∧ sJ 1 = s4 1 ∧ OldB [] w wJ ∧ i ≤ l.length ∧ Hid (l.take i = m.take i)) ⟨0, rfl, (by first | exact sl5 | (rw [sl5]; go_num) | (rw [sl5]; rfl)), rfl, rfl, OldB.refl _ _, Nat.zero_le _, hid rfl⟩ ?_; clear sl5; rintro kJ s5 w6 ⟨i, rfl, sl5, e0, e1, hb, hil, Htk⟩; replace sl0 := e0.trans sl0; clear e0; replace sl1 := e1.trans sl1; clear e1; have hoJ := hb; replace HB := mO HB hb; clear hb; have HoJ := hid hoJ; clear hoJ; have HL8 := HoJ; clear HoJ
  refine nr ?_; intros
  refine P4 ?_
  refine lx [14] ?_; clear sl0 sl1 sl5; intro _ sl0 sl1 sl5 sl14; refine ln ?_; intros
  refine cond_E sl14 (by decide) ?_ ?_ <;> (clear sl14; intro h14 sl14)
  ·skip
   have hi : i < l.length := by simpa using h14
   have hii : (i : Int) < l.length := by omega
   have hi2 : i < m.length := by have := Hlen.out; omega
   have hii2 : (i : Int) < m.length := by omega
   obtain ⟨bl, ol, hal, hbl, c0⟩ := RdInts.ne (Rd.oldB HRl.out HB.out (by simp)) hi; subst hal; obtain ⟨bm, om, ham, hbm, d0⟩ := RdInts.ne (Rd.oldB HRm.out HB.out (by simp)) hi2; subst ham; obtain ⟨y, hy⟩ : ∃ z, l[i] = z := ⟨_, rfl⟩; obtain ⟨z, hz⟩ : ∃ z, m[i] = z := ⟨_, rfl⟩; rw [hy] at c0; rw [hz] at d0; have Hy := hid hy; have Hz := hid hz; clear hy hz
   refine zx ?_; intros
   refine rgQ 8 [?_,?_,?_,?_,?_,?_,?_,?_] ?walk1 ?dep1
   case walk1 =>
    iterate 8 refine rq ?_
    refine walkR_nil (fun X hX w10 hwz hcz => ?_); clear hX hcz
    (try clear X)
    skip; have hb := hwz.unDrew; clear hwz; revert HB; revert HL8; refine zO hb ?_; clear hb; intro HL8 HB; refine pl ?_; clear sl14; refine lx [25] ?_; clear sl0 sl1 sl5; intro _ sl0 sl1 sl5 sl25; refine ln ?_; intros
    refine cond_E sl25 (by decide) ?_ ?_ <;> (clear sl25; intro h25 sl25)
    ·skip
     have Hf := hid (show decide (l = m) = false from decide_eq_false (fun e => by subst e; have h := h25; rw [← Hy.out, ← Hz.out] at h; simp at h))
     refine nr ?_; intros; refine pl ?_; clear sl0 sl1 sl5 sl25; refine lx [4] ?_; intro _ sl4; refine ln ?_; intros
     refine XW9b ?_; exact ⟨ret_bool Hf.out.symm, HB.out.toBelow⟩
    ·skip
     have hyz : y = z := by have h := h25; simp at h; exact h
     refine nr ?_; intros
     refine P3 ?_
     clear sl5 sl25; refine lx [5] ?_; clear sl0 sl1; intro _ sl0 sl1 sl5; refine ln ?_; intros
     refine ⟨_, _, rfl, ?_, i + 1, rfl, (rL sl5), (sl0.trans hc0_0.out.symm), (sl1.trans hc0_1.out.symm), HL8.out, by omega, hid (take_more hi hi2 Htk.out (by rw [Hy.out, Hz.out, hyz]))⟩
     omega
   case dep1 => exact dA
  ·skip
   have hi : i = l.length := by have h := h14; simp at h; omega
   have Hf := hid (show decide (l = m) = true from decide_eq_true (by have h1 := Htk.out; rw [hi, List.take_length, Hlen.out, List.take_length] at h1; exact h1))
   refine zx ?_; intros
   clear HL8; clear hc0_0 hc0_1; refine region_F ?_; refine pl ?_; clear sl0 sl1 sl5 sl14; refine lx [4] ?_; intro _ sl4; refine ln ?_; intros
   refine XW9b ?_; exact ⟨ret_bool Hf.out.symm, HB.out.toBelow⟩


theorem st_eq (s t : St4) : s = t ↔ s.store = t.store ∧ s.tape = t.tape ∧ s.taken = t.taken ∧ s.printed = t.printed ∧ s.time = t.time ∧ s.pc = t.pc ∧ s.done = t.done ∧ s.why = t.why := by
  cases s; cases t; simp
end

section
open Go.RowKit


/-- no part of a state lies in a block -/
def SA.free (A : SA) (s : St4) (k : Nat) : Prop := (s.store ≠ [] → ∀ b, A.sa = some b → b.block ≠ k) ∧ (s.tape ≠ [] → ∀ b, A.ta = some b → b.block ≠ k) ∧ (s.printed ≠ [] → ∀ b, A.pa = some b → b.block ≠ k)
theorem oldsetN {Bs : List Nat} {w0 w wX : World} (h : w = wX) (ho : OldB Bs w0 wX := by repeat (first | with_reducible exact OldB.refl _ _ | with_reducible refine OldB.set ?_ (by simp))) : OldB Bs w0 w := by rw [h]; exact ho
theorem info_int : (Tryz.prog.info? 3).map (fun i => (i.zero, i.size, i.bytes)) = some (some (.int .i64 0), 1, 8) := by kernel_rfl
theorem int_one (x : Int) : ∀ u ∈ int1 x, u.oneCell' = true := by intro u hu; simp [int1] at hu; subst hu; rfl
theorem ints_cell {w : World} {g : Nat} {l : List Int} (h : Cells w g (l.flatMap int1)) {i : Nat} (hi : i < l.length) : w.cell? ⟨g, i, none⟩ = some (.int .i64 l[i]) := by
  have := h.2.1 (i * 1 + 0) _ (flat_get int1 1 (fun _ => rfl) l i l[i] (List.getElem?_eq_getElem hi) 0 _ rfl)
  simpa using this
theorem ints_set (x : Int) : ∀ (l : List Int) (i : Nat), (l.flatMap int1).set i (.int .i64 x) = (l.set i x).flatMap int1
  | [], i => by simp
  | y :: l, 0 => by simp
  | y :: l, i + 1 => by
    have ih := ints_set x l i
    simp only [List.set_cons_succ, List.flatMap_cons, int1, List.cons_append, List.nil_append] at *
    rw [ih]
theorem step_why {s : St4} {k : Int} (hw : whyOf s = k) (hk : k ≠ 0) {p tk : Nat} (hp : s.pc = p) (htk : s.taken = tk) : step4 s = ⟨s.store, s.tape, (tk : Int), s.printed, s.time, (p : Int), s.done, k⟩ := by
  unfold step4; rw [if_pos (by rw [hw]; exact hk), hw, ← hp, ← htk]
end

section
open Go.RowKit


/-- the first one with p; -1: none -/
def idxOf {α : Type} (p : α → Bool) (l : List α) : Int := match l.findIdx? p with | some i => i | none => -1
theorem idx_found {α : Type} {p : α → Bool} {l : List α} {k : Nat} (hk : k < l.length) (h : (l.take k).any p = false) (hp : p l[k] = true) : idxOf p l = k := by
  have : l.findIdx? p = some k := by
    rw [List.findIdx?_eq_some_iff_getElem]; refine ⟨hk, hp, fun j hj => ?_⟩; rw [List.any_eq_false] at h
    exact by simpa using h l[j] (List.mem_take_iff_getElem.2 ⟨j, by omega, rfl⟩)
  unfold idxOf; rw [this]
theorem idx_none {α : Type} {p : α → Bool} {l : List α} (h : l.any p = false) : idxOf p l = -1 := by
  have : l.findIdx? p = none := by
    rw [List.findIdx?_eq_none_iff]; intro x hx; rw [List.any_eq_false] at h
    simpa using h x hx
  unfold idxOf; rw [this]
theorem idx_any {α : Type} (p : α → Bool) (l : List α) : decide (0 ≤ idxOf p l) = l.any p := by
  cases h : l.any p with
  | false => rw [idx_none h]; rfl
  | true =>
    unfold idxOf
    cases hf : l.findIdx? p with
    | none =>
      rw [List.findIdx?_eq_none_iff] at hf; rw [List.any_eq_true] at h; obtain ⟨x, hx, hp⟩ := h; rw [hf x hx] at hp; cases hp
    | some i => simp
theorem idx_any' {α : Type} (p : α → Bool) (l : List α) : decide (idxOf p l ≥ 0) = l.any p := idx_any p l
theorem rd1 {w : World} {g : Nat} {x : Int} (h : Cells w g [.int .i64 x]) : RdInts w (some ⟨g, 0, none⟩) [x] := Cells.rd (f := int1) (m := 1) (l := [x]) (fun _ => rfl) h
def outB (hi : Int) (l : List Int) : Bool := l.any (fun n => !inI n 0 hi)
theorem out1 {hi x : Int} : outB hi [x] = (!inI x 0 hi) := by simp [outB]
theorem signed_eq {x : Int} (hx : 0 ≤ x ∧ x ≤ 16777215) : x - x / 8388608 * 16777216 = signI x := by unfold signI; split <;> omega

theorem oout1_any (hi n : Int) (B : Nat) (w : World) (hB : w.cell? ⟨B, 0, none⟩ = some (.int .i64 hi)) :
    Calls Tryz.prog 107 #[.int .i64 n, .pointer (some ⟨B, 0, none⟩)] w (fun e w' => e = .returned (.bool (!inI n 0 hi)) ∧ w = w') := by
 refine enter_F Tryz.func107 rfl Tryz.ntmps107 (by simp) ?_
 intro s0 hs; have sl0 : s0 0 = .int .i64 n := hs 0 (by simp); have sl1 : s0 1 = .pointer (some ⟨B, 0, none⟩) := hs 1 (by simp); clear hs; have HB := hid (OldB.refl [] w)
 refine nr ?_; intros; refine pl ?_; refine lx [] ?_; clear sl0 sl1; intro _ sl0 sl1; refine lr ?_; intros
 refine P3 ?_
 refine lx [6] ?_; clear sl0 sl1; intro _ sl0 sl1 sl6
 refine boolG sl6 (fun sl6' h6 => ?_) (fun sl6' h6 => ?_) <;> (clear sl6; have sl6 := sl6'; clear sl6')
 ·skip
  refine pn true ?_; refine pn true ?_; refine pn true ?_; refine P2 ?_; clear sl0 sl1 sl6; refine lx [3] ?_; intro _ sl3; refine ln ?_; intros
  refine ret_F _ (res_t Tryz.results107 ((getD_F (by decide)).trans sl3)) ?_; exact ⟨ret_bool (by unfold inI; rw [Bool.eq_iff_iff]; simp at *; try omega), rfl⟩
 ·skip
  iterate 3 refine py ?_
  refine P2 ?_; clear sl0 sl1 sl6; refine lx [3] ?_; intro _ sl3; refine ln ?_; intros
  refine ret_F _ (res_t Tryz.results107 ((getD_F (by decide)).trans sl3)) ?_; exact ⟨ret_bool (by unfold inI; rw [Bool.eq_iff_iff]; simp at *; try omega), rfl⟩

theorem idxInt_any (a : Option Addr) (c : Nat) (l : List Int) (hi : Int) (B : Nat) (w : World) (hl : l.length ≤ 9223372036854775807) (hR : RdInts w a l) (hB : w.cell? ⟨B, 0, none⟩ = some (.int .i64 hi)) (hBs : B < w.heap.size) :
    Calls Tryz.prog 102 #[.slice a l.length c, .func (.func 107) #[] #[.pointer (some ⟨B, 0, none⟩)]] w (fun e w' => e = .returned (.int .i64 (idxOf (fun n => !inI n 0 hi) l)) ∧ Below w.heap.size w w') := by
 have HR := hid hR; clear hR
 refine enter_F Tryz.func102 rfl Tryz.ntmps102 (by simp) ?_
 intro s0 hs; have sl0 : s0 0 = .slice a l.length c := hs 0 (by simp); have sl1 : s0 1 = .func (.func 107) #[] #[.pointer (some ⟨B, 0, none⟩)] := hs 1 (by simp); clear hs; have HB := hid (OldB.refl [] w)
 refine nr ?_; intros; refine pl ?_; refine lx [] ?_; clear sl0 sl1; intro s1 sl0 sl1; refine lr ?_; intros
 refine P3 ?_
 refine lx [7,8] ?_; clear sl0 sl1; intro s2 sl0 sl1 sl7 sl8; refine ln ?_; intros
 have hc0_0 := hid sl0; have hc0_1 := hid sl1; have hc0_7 := hid sl7; refine loop_F (n := 19) (fun kJ sJ wJ => ∃ (k : Nat), kJ = l.length - k ∧ sJ 8 = .int .i64 (k : Int) ∧ sJ 0 = s2 0 ∧ sJ 1 = s2 1 ∧ sJ 7 = s2 7 ∧ OldB [] w wJ ∧ k ≤ l.length ∧ Hid ((l.take k).any (fun n => !inI n 0 hi) = false)) ⟨0, rfl, (by first | exact sl8 | (rw [sl8]; go_num) | (rw [sl8]; rfl)), rfl, rfl, rfl, OldB.refl _ _, Nat.zero_le _, hid rfl⟩ ?_; clear sl8; rintro kJ s3 w4 ⟨k, rfl, sl8, e0, e1, e7, hb5, hkl, hno⟩; replace sl0 := e0.trans sl0; clear e0; replace sl1 := e1.trans sl1; clear e1; replace sl7 := e7.trans sl7; clear e7; have hoJ := hb5; replace HB := mO HB hb5; clear hb5; have HoJ := hid hoJ; clear hoJ; have HL6 := HoJ; clear HoJ
 refine nr ?_; intros; refine pl ?_; refine lx [9] ?_; clear sl0 sl1 sl7 sl8; intro s7 sl0 sl1 sl7 sl8 sl9; refine ln ?_; intros
 refine cond_E sl9 (by decide) ?_ ?_ <;> (clear sl9; intro h9 sl9)
 ·skip
  have hlt : k < l.length := by simpa using h9
  obtain ⟨b, off, rfl, hb, h0⟩ := RdInts.ne (Rd.oldB HR.out HB.out (by simp)) hlt
  refine nr ?_; intros; refine P2 ?_; clear sl9; refine lx [5] ?_; clear sl0 sl1 sl7 sl8; intro s8 sl0 sl1 sl7 sl8 sl5; refine lr ?_; intros
  refine P5 ?_
  refine cal (oout1_any hi l[k] B _ ((HB.out.toBelow.cell (p := ⟨B, 0, none⟩) hBs).trans hB)) ?_; rintro e w' ⟨rfl, rfl⟩; refine ⟨_, rfl, ?_⟩; refine lx [16] ?_; clear sl0 sl1 sl5 sl7 sl8; intro s10 sl0 sl1 sl5 sl7 sl8 sl16; refine ln ?_; intros
  refine cond_E sl16 (by decide) ?_ ?_ <;> (clear sl16; intro h16 sl16)
  ·skip
   have Hpk := hid (idx_found hlt hno.out h16)
   refine nr ?_; intros; refine P2 ?_; clear sl0 sl1 sl5 sl7 sl8 sl16; refine lx [4] ?_; intro s11 sl4; refine ln ?_; intros
   refine ret_F _ (res_t Tryz.results102 ((getD_F (by decide)).trans sl4)) ?_; exact ⟨ret_int Hpk.out.symm, HB.out.toBelow⟩
  ·skip
   have hpk := hid h16
   refine nr ?_; intros; refine P2 ?_; clear sl8 sl5 sl16; refine lx [8] ?_; clear sl0 sl1 sl7; intro s12 sl0 sl1 sl7 sl8; refine ln ?_; intros
   refine ⟨_, _, rfl, ?_, k + 1, rfl, (rL sl8), (sl0.trans hc0_0.out.symm), (sl1.trans hc0_1.out.symm), (sl7.trans hc0_7.out.symm), HL6.out, by omega, hid (by rw [any_take_succ _ _ _ hlt, hno.out, hpk.out]; rfl)⟩
   omega
 ·skip
  have hge : l.length ≤ k := by simpa using h9
  have hno2 : l.any (fun n => !inI n 0 hi) = false := by have := hno.out; rwa [List.take_of_length_le hge] at this
  have Hno := hid hno2; clear hno2
  refine zx ?_; intros
  clear HL6; clear hc0_0 hc0_1 hc0_7; refine region_F ?_; refine pl ?_; clear sl0 sl1 sl7 sl8 sl9; refine lx [4] ?_; intro s13 sl4; refine ln ?_; intros
  refine ret_F _ (res_t Tryz.results102 ((getD_F (by decide)).trans sl4)) ?_; exact ⟨ret_int (idx_none Hno.out).symm, HB.out.toBelow⟩

theorem conInt_any (a : Option Addr) (c : Nat) (l : List Int) (hi : Int) (B : Nat) (w : World) (hl : l.length ≤ 9223372036854775807) (hR : RdInts w a l) (hB : w.cell? ⟨B, 0, none⟩ = some (.int .i64 hi)) (hBs : B < w.heap.size) :
    Calls Tryz.prog 106 #[.slice a l.length c, .func (.func 107) #[] #[.pointer (some ⟨B, 0, none⟩)]] w (fun e w' => e = .returned (.bool (outB hi l)) ∧ Below w.heap.size w w') := by
 have HR := hid hR; clear hR
 refine enter_F Tryz.func106 rfl Tryz.ntmps106 (by simp) ?_
 intro s0 hs; have sl0 : s0 0 = .slice a l.length c := hs 0 (by simp); have sl1 : s0 1 = .func (.func 107) #[] #[.pointer (some ⟨B, 0, none⟩)] := hs 1 (by simp); clear hs; have HB := hid (OldB.refl [] w)
 refine nr ?_; intros; refine pl ?_; refine lx [] ?_; clear sl0 sl1; intro _ sl0 sl1; refine lr ?_; intros; refine P2 ?_; refine cal (idxInt_any a c l hi B _ hl HR.out hB hBs) ?_; rintro e _ ⟨rfl, hb⟩; refine ⟨_, rfl, ?_⟩; replace HB := bE HB hb; clear hb; refine P2 ?_; clear sl0 sl1; refine lx [4] ?_; intro _ sl4; refine ln ?_; intros
 refine ret_F _ (res_t Tryz.results106 ((getD_F (by decide)).trans sl4)) ?_; exact ⟨ret_bool (idx_any' _ _), HB.out.toBelow⟩

theorem oout_any (hi : Int) (a : Option Addr) (c : Nat) (l : List Int) (w : World) (hl : l.length ≤ 9223372036854775807) (hR : RdInts w a l) :
    Calls Tryz.prog 82 #[.int .i64 hi, .slice a l.length c] w (fun e w' => e = .returned (.bool (outB hi l)) ∧ Below w.heap.size w w') := by
 have HR := hid hR; clear hR
 refine enter_F Tryz.func82 rfl Tryz.ntmps82 (by simp) ?_
 intro s0 hs; have sl0 : s0 0 = .int .i64 hi := hs 0 (by simp); have sl1 : s0 1 = .slice a l.length c := hs 1 (by simp); clear hs; have HB := hid (OldB.refl [] w)
 refine nr ?_; intros; refine pa (fun _ B2 hB kb2 hb => ?_); have gb2 := HB.out.gB hB; have eb2 := eB hB; clear hB; replace HB := bE HB hb; clear hb; have qb2 := kb2.1; refine pl ?_; clear sl0; refine lx [2] ?_; clear sl1; intro _ sl1 sl2; refine lr ?_; intros; refine P2 ?_; refine cal (conInt_any a c l hi B2 _ hl (Rd.oldB HR.out HB.out (by simp)) (kb2.cell 0 rfl) kb2.1) ?_; rintro e _ ⟨rfl, hb⟩; refine ⟨_, rfl, ?_⟩; clear qb2; revert HB; revert kb2; refine uA hb ?_; clear hb; intro kb2 qb2 HB; refine pl ?_; clear sl1 sl2; refine lx [4] ?_; intro _ sl4; refine ln ?_; intros
 refine ret_F _ (res_t Tryz.results82 ((getD_F (by decide)).trans sl4)) ?_; exact ⟨rfl, HB.out.toBelow⟩


theorem oout_1 (hi x : Int) (B c : Nat) (w : World) (hB : Cells w B [.int .i64 x]) : Calls Tryz.prog 82 #[.int .i64 hi, .slice (some ⟨B, 0, none⟩) 1 c] w (fun e w' => e = .returned (.bool (!inI x 0 hi)) ∧ Below w.heap.size w w') := by
  have := oout_any hi (some ⟨B, 0, none⟩) c [x] w (by simp) (rd1 hB); rw [out1] at this; exact this

theorem unpack_any (x q m : Int) (w : World) (hx : 0 ≤ x ∧ x ≤ 16777215) (hq : x / 128 = q) (hm : x % 128 = m) :
    Calls Tryz.prog 108 #[.int .i64 x] w (fun e w' => e = .returned (.tuple #[.int .i64 q, .int .i64 m]) ∧ w = w') := by
 have hb := i64_and127' x
 have hs : x.fdiv 128 = q := by rw [← hq, Int.fdiv_eq_ediv_of_nonneg _ (by decide)]
 rw [hm] at hb
 refine enter_F Tryz.func108 rfl Tryz.ntmps108 (by simp) ?_
 intro s0 hs; have sl0 : s0 0 = .int .i64 x := hs 0 (by simp); clear hs; have HB := hid (OldB.refl [] w)
 refine nr ?_; intros; refine P2 ?_; refine lx [] ?_; clear sl0; intro s1 sl0; refine lr ?_; intros
 refine P6 ?_
 clear sl0; refine lx [2,3] ?_; intro s2 sl2 sl3; refine ln ?_; intros
 refine ret_F _ (res_tt Tryz.results108 ((getD_F (by decide)).trans sl2) ((getD_F (by decide)).trans sl3)) ?_; exact ⟨rfl, rfl⟩

theorem signed_any (x : Int) (w : World) (hx : 0 ≤ x ∧ x ≤ 16777215) :
    Calls Tryz.prog 118 #[.int .i64 x] w (fun e w' => e = .returned (.int .i64 (signI x)) ∧ w = w') := by
 have hs : x.fdiv 8388608 = x / 8388608 := Int.fdiv_eq_ediv_of_nonneg _ (by decide); have he := signed_eq hx; obtain ⟨q, hq⟩ : ∃ q, x / 8388608 = q := ⟨_, rfl⟩; rw [hq] at hs he; have w1 : IntKind.i64.wrap (q * 16777216) = q * 16777216 := IntWalk.i64_in _ (by omega)
 have w2 : IntKind.i64.wrap (signI x) = signI x := by rw [← he]; exact IntWalk.i64_in _ (by omega)
 refine enter_F Tryz.func118 rfl Tryz.ntmps118 (by simp) ?_
 intro s0 hs; have sl0 : s0 0 = .int .i64 x := hs 0 (by simp); clear hs; have HB := hid (OldB.refl [] w)
 refine nr ?_; intros; refine pl ?_; refine lx [] ?_; clear sl0; intro _ sl0; refine lr ?_; intros
 refine P6 ?_
 clear sl0; refine lx [2] ?_; intro _ sl2; refine ln ?_; intros
 refine ret_F _ (res_t Tryz.results118 ((getD_F (by decide)).trans sl2)) ?_; exact ⟨rfl, rfl⟩

theorem odecode_any (x : Int) (w : World) (hx : 0 ≤ x ∧ x ≤ 16777215) :
    Calls Tryz.prog 83 #[.int .i64 x] w (fun e w' => e = .returned (.agg #[.int .i64 (decodeO x).op, .int .i64 (decodeO x).fr, .int .i64 (decodeO x).tt, .int .i64 (decodeO x).nx]) ∧ Below w.heap.size w w') := by
 obtain ⟨d1, hd1⟩ : ∃ a, x / 128 = a := ⟨_, rfl⟩; obtain ⟨d2, hd2⟩ : ∃ a, d1 / 128 = a := ⟨_, rfl⟩; obtain ⟨d3, hd3⟩ : ∃ a, d2 / 128 = a := ⟨_, rfl⟩; obtain ⟨m1, hm1⟩ : ∃ a, x % 128 = a := ⟨_, rfl⟩; obtain ⟨m2, hm2⟩ : ∃ a, d1 % 128 = a := ⟨_, rfl⟩; obtain ⟨m3, hm3⟩ : ∃ a, d2 % 128 = a := ⟨_, rfl⟩; have Hd := hid (show decodeO x = ⟨d3, m3, m2, m1⟩ by unfold decodeO; rw [hd1, hd2, hd3, hm1, hm2, hm3]); skip
 refine enter_F Tryz.func83 rfl Tryz.ntmps83 (by simp) ?_
 intro s0 hs; have sl0 : s0 0 = .int .i64 x := hs 0 (by simp); clear hs; have HB := hid (OldB.refl [] w)
 refine nr ?_; intros; refine pa (fun _ B2 hB kb2 hb => ?_); have gb2 := HB.out.gB hB; have eb2 := eB hB; clear hB; replace HB := bE HB hb; clear hb; have qb2 := kb2.1; refine lx [2] ?_; clear sl0; intro _ sl0 sl2; refine lr ?_; intros; refine pl ?_; refine cal (unpack_any x d1 m1 _ hx hd1 hm1) ?_; rintro e w' ⟨rfl, rfl⟩; refine ⟨_, rfl, ?_⟩
 refine P5 ?_
 obtain ⟨cb2_0, cb2_1, cb2_2, cb2_3⟩ := cl4 kb2; have zb2 := kb2.2.2; refine pl ?_; refine sto kb2 ?_; clear kb2 cb2_0 cb2_1 cb2_2 cb2_3 zb2; intro _ kb2 hb; clear qb2; replace HB := mO HB hb; clear hb; have qb2 := kb2.1; clear sl0; refine lx [0] ?_; clear sl2; intro _ sl2 sl0; refine lr ?_; intros; refine pl ?_; refine cal (unpack_any d1 d2 m2 _ (by omega) hd2 hm2) ?_; rintro e w' ⟨rfl, rfl⟩; refine ⟨_, rfl, ?_⟩
 refine P5 ?_
 obtain ⟨cb2_0, cb2_1, cb2_2, cb2_3⟩ := cl4 kb2; have zb2 := kb2.2.2; refine pl ?_; refine sto kb2 ?_; clear kb2 cb2_0 cb2_1 cb2_2 cb2_3 zb2; intro _ kb2 hb; clear qb2; replace HB := mO HB hb; clear hb; have qb2 := kb2.1; clear sl0; refine lx [0] ?_; clear sl2; intro _ sl2 sl0; refine lr ?_; intros; refine pl ?_; refine cal (unpack_any d2 d3 m3 _ (by omega) hd3 hm3) ?_; rintro e w' ⟨rfl, rfl⟩; refine ⟨_, rfl, ?_⟩
 refine P4 ?_
 obtain ⟨cb2_0, cb2_1, cb2_2, cb2_3⟩ := cl4 kb2; have zb2 := kb2.2.2; refine pl ?_; refine sto kb2 ?_; clear kb2 cb2_0 cb2_1 cb2_2 cb2_3 zb2; intro _ kb2 hb; clear qb2; replace HB := mO HB hb; clear hb; have qb2 := kb2.1; refine pl ?_; obtain ⟨cb2_0, cb2_1, cb2_2, cb2_3⟩ := cl4 kb2; have zb2 := kb2.2.2; refine pl ?_; refine sto kb2 ?_; clear kb2 cb2_0 cb2_1 cb2_2 cb2_3 zb2; intro _ kb2 hb; clear qb2; replace HB := mO HB hb; clear hb; have qb2 := kb2.1; clear sl0; refine lx [] ?_; clear sl2; intro _ sl2; refine lr ?_; intros; obtain ⟨cb2_0, cb2_1, cb2_2, cb2_3⟩ := cl4 kb2; refine pl ?_; have zb2 := kb2.2.2; refine pl ?_; refine sto kb2 ?_; clear kb2 cb2_0 cb2_1 cb2_2 cb2_3 zb2; intro _ kb2 hb; clear qb2; replace HB := mO HB hb; clear hb; have qb2 := kb2.1; refine lx [] ?_; clear sl2; intro _ sl2; refine ln ?_; intros
 obtain ⟨cb2_0, cb2_1, cb2_2, cb2_3⟩ := cl4 kb2; refine ret_F _ (res_c Tryz.results83 ((getD_F (by decide)).trans sl2) (load_t27 cb2_0 cb2_1 cb2_2 cb2_3)) ?_; exact ⟨by rw [Hd.out], HB.out.toBelow⟩
end


end Go.Proofs.YtleknidlgmmgbaaGreat
