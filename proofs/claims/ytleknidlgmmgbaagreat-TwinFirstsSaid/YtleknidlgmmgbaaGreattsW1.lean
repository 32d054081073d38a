/- The reference's machine: the small functions. -/
import Derived.Test.YtleknidlgmmgbaaGreattsT3
import Derived.Test.YtleknidlgmmgbaaGreattsG7
import Derived.Test.YtleknidlgmmgbaaGreattsCZ
set_option linter.all false
set_option maxRecDepth 100000
set_option maxHeartbeats 1000000
namespace Go.Proofs.YtleknidlgmmgbaaGreat

section
theorem floor_prod (n : Int) : (if n.tmod 8388608 < 0 then n.tdiv 8388608 - 1 else n.tdiv 8388608) = n / 8388608 := by
  have h1 := Int.mul_tdiv_add_tmod n 8388608
  have h2 := Int.tmod_lt_of_pos n (show (0 : Int) < 8388608 by decide)
  have h3 := Int.lt_tmod_of_pos n (show (0 : Int) < 8388608 by decide)
  by_cases hn : 0 ≤ n
  · have := Int.tmod_nonneg 8388608 hn
    rw [if_neg (by omega)]
    exact Int.tdiv_eq_ediv_of_nonneg hn
  · have h4 : n.tmod 8388608 ≤ 0 := by
      have := Int.tmod_nonneg (a := -n) 8388608 (by omega)
      rw [Int.neg_tmod] at this
      omega
    split <;> omega
theorem sign_bd {w : Int} (h : 0 ≤ w ∧ w ≤ 16777215) : -8388608 ≤ signI w ∧ signI w ≤ 8388607 := by unfold signI; split <;> omega
theorem sprod_bd {a b : Int} (ha : 0 ≤ a ∧ a ≤ 16777215) (hb : 0 ≤ b ∧ b ≤ 16777215) : -70368744177664 ≤ signI a * signI b ∧ signI a * signI b ≤ 70368744177664 := by
  have h1 := sign_bd ha
  have h2 := sign_bd hb
  have k1 : signI a * signI b ≤ (signI a).natAbs * (signI b).natAbs := by
    have := Int.le_natAbs (a := signI a * signI b)
    rw [Int.natAbs_mul] at this
    exact_mod_cast this
  have k2 : -((signI a).natAbs * (signI b).natAbs : Int) ≤ signI a * signI b := by
    have := Int.le_natAbs (a := -(signI a * signI b))
    rw [Int.natAbs_neg, Int.natAbs_mul] at this
    have h : -(signI a * signI b) ≤ ((signI a).natAbs * (signI b).natAbs : Int) := by exact_mod_cast this
    omega
  have k3 : (signI a).natAbs * (signI b).natAbs ≤ 8388608 * 8388608 := Nat.mul_le_mul (by omega) (by omega)
  have k4 : ((signI a).natAbs : Int) * ((signI b).natAbs : Int) ≤ 70368744177664 := by have := Int.ofNat_le.2 k3; rw [Int.natCast_mul] at this; omega
  omega
end

section
open Go.RowKit

abbrev int1 (n : Int) : List Value := [.int .i64 n]
abbrev RdInts := Rd int1 1
theorem RdInts.ne {w : World} {a : Option Addr} {l : List Int} (h : RdInts w a l) {k : Nat} (hk : k < l.length) :
    ∃ b off, a = some ⟨b, off, none⟩ ∧ b < w.heap.size ∧ w.cell? ⟨b, off + k, none⟩ = some (.int .i64 l[k]) := by
  obtain ⟨b, off, ha, hb, hc⟩ := Rd.ne h hk; exact ⟨b, off, ha, hb, by simpa using hc 0 _ rfl⟩
theorem rd_at1 {w : World} {b off : Nat} {l : List Int} (h : RdInts w (some ⟨b, off, none⟩) l) {k : Nat} (hk : k < l.length) {y : Int} (hy : l[k] = y) : w.cell? ⟨b, off + k, none⟩ = some (.int .i64 y) := by
  subst hy; obtain ⟨b', o', ha, _, h1⟩ := RdInts.ne h hk
  cases ha
  exact h1
theorem getD_get {α : Type} {l : List α} {i : Nat} (h : i < l.length) (d : α) : l.getD i d = l[i] := by
  rw [List.getD_eq_getElem?_getD, List.getElem?_eq_getElem h]; rfl
theorem oddU_found {l : List Int} : ∀ {n i : Nat}, i < n → (∀ j, j < i → wordB (l.getD j 0) = true) → wordB (l.getD i 0) = false → oddU l n = i
  | 0, i, h, _, _ => by omega
  | n + 1, i, h, h1, h2 => by
    unfold oddU
    by_cases e : i = n
    · subst e
      have := oddU_neg.2 h1; rw [if_neg (by omega), if_neg (by rw [h2]; decide)]
    · rw [oddU_found (by omega) h1 h2, if_pos (by omega)]
theorem oddU_none {l : List Int} : ∀ {n : Nat}, (∀ j, j < n → wordB (l.getD j 0) = true) → oddU l n = -1
  | 0, _ => rfl
  | n + 1, h => by
    unfold oddU; rw [oddU_none (fun j hj => h j (by omega)), if_neg (by omega), if_pos (h n (by omega))]
theorem take_more {α : Type} [DecidableEq α] {x y : List α} {k : Nat} (hx : k < x.length) (hy : k < y.length) (h : x.take k = y.take k) (hk : x[k] = y[k]) : x.take (k + 1) = y.take (k + 1) := by
  rw [List.take_succ_eq_append_getElem hx, List.take_succ_eq_append_getElem hy, h, hk]
theorem afterT_in {t a : Int} {n : Nat} (hn : (n : Int) ≤ (a - t - 1) % 16) (h : (t + 1 + n) % 16 = a % 16) : afterT t a = t + 1 + n := by unfold afterT; omega
theorem afterT_no {t a : Int} {n : Nat} (hn : (n : Int) ≤ (a - t - 1) % 16) (h : ¬ (t + 1 + n) % 16 = a % 16) : (n : Int) + 1 ≤ (a - t - 1) % 16 := by omega
theorem load_t27 {w : World} {b o : Nat} {x0 x1 x2 x3 : Value} (h0 : w.cell? ⟨b, o, none⟩ = some x0) (h1 : w.cell? ⟨b, o + 1, none⟩ = some x1) (h2 : w.cell? ⟨b, o + 2, none⟩ = some x2) (h3 : w.cell? ⟨b, o + 3, none⟩ = some x3) :
    (loadVar 27 ⟨b, o, none⟩).run Tryz.prog w = .ok (.agg #[x0, x1, x2, x3]) w := by
  simp [go_sem, h0, h1, h2, h3]
theorem load_t24 {w : World} {b o : Nat} {x0 x1 x2 x3 x4 x5 x6 x7 : Value} (h0 : w.cell? ⟨b, o, none⟩ = some x0) (h1 : w.cell? ⟨b, o + 1, none⟩ = some x1) (h2 : w.cell? ⟨b, o + 2, none⟩ = some x2) (h3 : w.cell? ⟨b, o + 3, none⟩ = some x3) (h4 : w.cell? ⟨b, o + 4, none⟩ = some x4) (h5 : w.cell? ⟨b, o + 5, none⟩ = some x5) (h6 : w.cell? ⟨b, o + 6, none⟩ = some x6) (h7 : w.cell? ⟨b, o + 7, none⟩ = some x7) :
    (loadVar 24 ⟨b, o, none⟩).run Tryz.prog w = .ok (.agg #[x0, x1, x2, x3, x4, x5, x6, x7]) w := by
  simp [go_sem, h0, h1, h2, h3, h4, h5, h6, h7]
theorem load_t29 {w : World} {b o : Nat} {x0 x1 x2 x3 x4 x5 x6 : Value} (h0 : w.cell? ⟨b, o, none⟩ = some x0) (h1 : w.cell? ⟨b, o + 1, none⟩ = some x1) (h2 : w.cell? ⟨b, o + 2, none⟩ = some x2) (h3 : w.cell? ⟨b, o + 3, none⟩ = some x3) (h4 : w.cell? ⟨b, o + 4, none⟩ = some x4) (h5 : w.cell? ⟨b, o + 5, none⟩ = some x5) (h6 : w.cell? ⟨b, o + 6, none⟩ = some x6) :
    (loadVar 29 ⟨b, o, none⟩).run Tryz.prog w = .ok (.agg #[x0, x1, x2, x3, x4, x5, x6]) w := by
  simp [go_sem, h0, h1, h2, h3, h4, h5, h6]
theorem rin04_any (n a b : Int) (w : World) :
    Calls Tryz.prog 105 #[.int .i64 n, .int .i64 a, .int .i64 b] w (fun e w' => e = .returned (.bool (inI n a b)) ∧ w = w') := by
 refine enter_F Tryz.func105 rfl Tryz.ntmps105 (by simp) ?_
 intro s0 hs; have sl0 : s0 0 = .int .i64 n := hs 0 (by simp); have sl1 : s0 1 = .int .i64 a := hs 1 (by simp); have sl2 : s0 2 = .int .i64 b := hs 2 (by simp); clear hs; have HB := hid (OldB.refl [] w)
 refine nr ?_; intros; refine pl ?_; refine lx [] ?_; clear sl0 sl1 sl2; intro _ sl0 sl1 sl2; refine lr ?_; intros
 refine P4 ?_
 clear sl1; refine lx [10] ?_; clear sl0 sl2; intro _ sl0 sl2 sl10
 refine boolG sl10 (fun sl10' h10 => ?_) (fun sl10' h10 => ?_) <;> (clear sl10; have sl10 := sl10'; clear sl10')
 ·skip
  iterate 3 refine py ?_
  refine P2 ?_; clear sl0 sl2 sl10; refine lx [6] ?_; intro _ sl6; refine ln ?_; intros
  refine ret_F _ (res_t Tryz.results105 ((getD_F (by decide)).trans sl6)) ?_; exact ⟨ret_bool (by unfold inI; simp at *; try omega), rfl⟩
 ·skip
  refine F3 ?_; refine P2 ?_; clear sl0 sl2 sl10; refine lx [6] ?_; intro _ sl6; refine ln ?_; intros
  refine ret_F _ (res_t Tryz.results105 ((getD_F (by decide)).trans sl6)) ?_; exact ⟨ret_bool (by unfold inI; simp at *; try omega), rfl⟩

theorem rin12_any (n a b : Int) (w : World) :
    Calls Tryz.prog 66 #[.int .i64 n, .int .i64 a, .int .i64 b] w (fun e w' => e = .returned (.bool (inI n a b)) ∧ w = w') := by
 refine enter_F Tryz.func66 rfl Tryz.ntmps66 (by simp) ?_
 intro s0 hs; have sl0 : s0 0 = .int .i64 n := hs 0 (by simp); have sl1 : s0 1 = .int .i64 a := hs 1 (by simp); have sl2 : s0 2 = .int .i64 b := hs 2 (by simp); clear hs; have HB := hid (OldB.refl [] w)
 refine nr ?_; intros; refine pl ?_; refine lx [] ?_; clear sl0 sl1 sl2; intro _ sl0 sl1 sl2; refine lr ?_; intros
 refine P4 ?_
 clear sl1; refine lx [10] ?_; clear sl0 sl2; intro _ sl0 sl2 sl10
 refine boolG sl10 (fun sl10' h10 => ?_) (fun sl10' h10 => ?_) <;> (clear sl10; have sl10 := sl10'; clear sl10')
 ·skip
  iterate 3 refine py ?_
  refine P2 ?_; clear sl0 sl2 sl10; refine lx [6] ?_; intro _ sl6; refine ln ?_; intros
  refine ret_F _ (res_t Tryz.results66 ((getD_F (by decide)).trans sl6)) ?_; exact ⟨ret_bool (by unfold inI; simp at *; try omega), rfl⟩
 ·skip
  refine F3 ?_; refine P2 ?_; clear sl0 sl2 sl10; refine lx [6] ?_; intro _ sl6; refine ln ?_; intros
  refine ret_F _ (res_t Tryz.results66 ((getD_F (by decide)).trans sl6)) ?_; exact ⟨ret_bool (by unfold inI; simp at *; try omega), rfl⟩

theorem rword_any (n : Int) (w : World) :
    Calls Tryz.prog 87 #[.int .i64 n] w (fun e w' => e = .returned (.bool (wordB n)) ∧ w = w') := by
 refine enter_F Tryz.func87 rfl Tryz.ntmps87 (by simp) ?_
 intro s0 hs; have sl0 : s0 0 = .int .i64 n := hs 0 (by simp); clear hs; have HB := hid (OldB.refl [] w)
 refine nr ?_; intros; refine pl ?_; refine lx [] ?_; clear sl0; intro _ sl0; refine lr ?_; intros; refine pl ?_; refine cal (rin04_any n 0 16777215 _) ?_; rintro e w' ⟨rfl, rfl⟩; refine ⟨_, rfl, ?_⟩; refine pl ?_; clear sl0; refine lx [2] ?_; intro _ sl2; refine ln ?_; intros
 refine ret_F _ (res_t Tryz.results87 ((getD_F (by decide)).trans sl2)) ?_; exact ⟨rfl, rfl⟩

theorem raddr_any (n : Int) (w : World) :
    Calls Tryz.prog 84 #[.int .i64 n] w (fun e w' => e = .returned (.bool (addrB n)) ∧ w = w') := by
 refine enter_F Tryz.func84 rfl Tryz.ntmps84 (by simp) ?_
 intro s0 hs; have sl0 : s0 0 = .int .i64 n := hs 0 (by simp); clear hs; have HB := hid (OldB.refl [] w)
 refine nr ?_; intros; refine pl ?_; refine lx [] ?_; clear sl0; intro _ sl0; refine lr ?_; intros; refine pl ?_; refine cal (rin04_any n 0 127 _) ?_; rintro e w' ⟨rfl, rfl⟩; refine ⟨_, rfl, ?_⟩; refine pl ?_; clear sl0; refine lx [2] ?_; intro _ sl2; refine ln ?_; intros
 refine ret_F _ (res_t Tryz.results84 ((getD_F (by decide)).trans sl2)) ?_; exact ⟨rfl, rfl⟩

theorem rsign_any (x : Int) (w : World) (hx : 0 ≤ x ∧ x ≤ 16777215) :
    Calls Tryz.prog 110 #[.int .i64 x] w (fun e w' => e = .returned (.int .i64 (signI x)) ∧ w = w') := by
 have w1 : IntKind.i64.wrap (x - 16777216) = x - 16777216 := IntWalk.i64_in _ (by omega)
 refine enter_F Tryz.func110 rfl Tryz.ntmps110 (by simp) ?_
 intro s0 hs; have sl0 : s0 0 = .int .i64 x := hs 0 (by simp); clear hs; have HB := hid (OldB.refl [] w)
 refine nr ?_; intros; refine pl ?_; refine lx [] ?_; clear sl0; intro _ sl0; refine lr ?_; intros; refine P2 ?_; refine lx [4] ?_; clear sl0; intro _ sl0 sl4; refine ln ?_; intros
 refine cond_E sl4 (by decide) ?_ ?_ <;> (clear sl4; intro h4 sl4)
 ·skip
  have Hs := hid (show signI x = x - 16777216 by unfold signI; rw [if_pos (by simpa using h4)])
  refine nr ?_; intros
  refine P3 ?_
  clear sl0 sl4; refine lx [2] ?_; intro _ sl2; refine ln ?_; intros
  refine ret_F _ (res_t Tryz.results110 ((getD_F (by decide)).trans sl2)) ?_; exact ⟨ret_int Hs.out.symm, rfl⟩
 ·skip
  have Hs := hid (show signI x = x by unfold signI; rw [if_neg (by simpa using h4)])
  refine nr ?_; intros; refine P2 ?_; clear sl0 sl4; refine lx [2] ?_; intro _ sl2; refine ln ?_; intros
  refine ret_F _ (res_t Tryz.results110 ((getD_F (by decide)).trans sl2)) ?_; exact ⟨ret_int Hs.out.symm, rfl⟩

theorem rdecode_any (x : Int) (w : World) (hx : 0 ≤ x ∧ x ≤ 16777215) :
    Calls Tryz.prog 88 #[.int .i64 x] w (fun e w' => e = .returned (.agg #[.int .i64 (decodeO x).op, .int .i64 (decodeO x).fr, .int .i64 (decodeO x).tt, .int .i64 (decodeO x).nx]) ∧ Below w.heap.size w w') := by
 obtain ⟨d1, hd1⟩ : ∃ a, x / 128 = a := ⟨_, rfl⟩; obtain ⟨d2, hd2⟩ : ∃ a, d1 / 128 = a := ⟨_, rfl⟩; obtain ⟨d3, hd3⟩ : ∃ a, d2 / 128 = a := ⟨_, rfl⟩; obtain ⟨m1, hm1⟩ : ∃ a, x % 128 = a := ⟨_, rfl⟩; obtain ⟨m2, hm2⟩ : ∃ a, d1 % 128 = a := ⟨_, rfl⟩; obtain ⟨m3, hm3⟩ : ∃ a, d2 % 128 = a := ⟨_, rfl⟩; have Hd := hid (show decodeO x = ⟨d3, m3, m2, m1⟩ by unfold decodeO; rw [hd1, hd2, hd3, hm1, hm2, hm3])
 have q1 : x.tdiv 128 = d1 := by rw [← hd1]; exact Int.tdiv_eq_ediv_of_nonneg hx.1
 have q2 : d1.tdiv 128 = d2 := by rw [← hd2]; exact Int.tdiv_eq_ediv_of_nonneg (by omega)
 have q3 : d2.tdiv 128 = d3 := by rw [← hd3]; exact Int.tdiv_eq_ediv_of_nonneg (by omega)
 have q4 : x.tmod 128 = m1 := by rw [← hm1]; exact Int.tmod_eq_emod_of_nonneg hx.1
 have q5 : d1.tmod 128 = m2 := by rw [← hm2]; exact Int.tmod_eq_emod_of_nonneg (by omega)
 have q6 : d2.tmod 128 = m3 := by rw [← hm3]; exact Int.tmod_eq_emod_of_nonneg (by omega)
 have v0 : IntKind.i64.wrap d1 = d1 := IntWalk.i64_in _ (by omega); have v1 : IntKind.i64.wrap d2 = d2 := IntWalk.i64_in _ (by omega); have v2 : IntKind.i64.wrap d3 = d3 := IntWalk.i64_in _ (by omega); have v3 : IntKind.i64.wrap m1 = m1 := IntWalk.i64_in _ (by omega); have v4 : IntKind.i64.wrap m2 = m2 := IntWalk.i64_in _ (by omega); have v5 : IntKind.i64.wrap m3 = m3 := IntWalk.i64_in _ (by omega); clear hd1 hd2 hd3 hm1 hm2 hm3 hx
 refine enter_F Tryz.func88 rfl Tryz.ntmps88 (by simp) ?_
 intro s0 hs; have sl0 : s0 0 = .int .i64 x := hs 0 (by simp); clear hs; have HB := hid (OldB.refl [] w)
 refine nr ?_; intros; refine pa (fun _ B2 hB kb2 hb => ?_); have gb2 := HB.out.gB hB; have eb2 := eB hB; clear hB; replace HB := bE HB hb; clear hb; have qb2 := kb2.1; refine lx [2] ?_; clear sl0; intro _ sl0 sl2; refine lr ?_; intros
 refine P3 ?_
 refine lx [3] ?_; clear sl0 sl2; intro _ sl0 sl2 sl3; refine lr ?_; intros
 refine P11 ?_
 obtain ⟨cb2_0, cb2_1, cb2_2, cb2_3⟩ := cl4 kb2; have zb2 := kb2.2.2; refine pl ?_; refine sto kb2 ?_; clear kb2 cb2_0 cb2_1 cb2_2 cb2_3 zb2; intro _ kb2 hb; clear qb2; replace HB := mO HB hb; clear hb; have qb2 := kb2.1; clear sl0 sl3; refine lx [] ?_; clear sl2; intro _ sl2; refine ln ?_; intros
 obtain ⟨cb2_0, cb2_1, cb2_2, cb2_3⟩ := cl4 kb2; refine ret_F _ (res_c Tryz.results88 ((getD_F (by decide)).trans sl2) (load_t27 cb2_0 cb2_1 cb2_2 cb2_3)) ?_; exact ⟨by rw [Hd.out], HB.out.toBelow⟩

theorem rafter_any (t a : Int) (w : World) (ht : 0 ≤ t ∧ t ≤ 2000000000) (ha : 0 ≤ a ∧ a ≤ 127) :
    Calls Tryz.prog 128 #[.int .i64 t, .int .i64 a] w (fun e w' => e = .returned (.int .i64 (afterT t a)) ∧ Below w.heap.size w w') := by
 have ea : a.tmod 16 = a % 16 := Int.tmod_eq_emod_of_nonneg ha.1; have wa : IntKind.i64.wrap (a % 16) = a % 16 := IntWalk.i64_in _ (by omega); have hk := Int.emod_nonneg (a - t - 1) (b := 16) (by decide); have hk2 := Int.emod_lt_of_pos (a - t - 1) (b := 16) (by decide)
 refine enter_F Tryz.func128 rfl Tryz.ntmps128 (by simp) ?_
 intro s0 hs; have sl0 : s0 0 = .int .i64 t := hs 0 (by simp); have sl1 : s0 1 = .int .i64 a := hs 1 (by simp); clear hs; have HB := hid (OldB.refl [] w)
 refine nr ?_; intros; refine pl ?_; refine lx [] ?_; clear sl0 sl1; intro _ sl0 sl1; refine lr ?_; intros
 refine P3 ?_
 clear sl0; refine lx [5] ?_; clear sl1; intro s2 sl1 sl5; refine ln ?_; intros
 have hc0_1 := hid sl1; refine loop_F (n := 16) (fun kJ sJ wJ => ∃ (n : Nat), kJ = 16 - n ∧ sJ 5 = .int .i64 (t + 1 + (n : Int)) ∧ sJ 1 = s2 1 ∧ OldB [] w wJ ∧ (n : Int) ≤ (a - t - 1) % 16) ⟨0, rfl, (by rw [sl5, IntWalk.i64_in _ (by omega)]; simp), rfl, OldB.refl _ _, by omega⟩ ?_; clear sl5; rintro kJ s3 w4 ⟨n, rfl, sl5, e1, hb, hn⟩; replace sl1 := e1.trans sl1; clear e1; have hoJ := hb; replace HB := mO HB hb; clear hb; have HoJ := hid hoJ; clear hoJ; have HL6 := HoJ; clear HoJ
 refine nr ?_; intros; have et : (t + 1 + (n : Int)).tmod 16 = (t + 1 + n) % 16 := Int.tmod_eq_emod_of_nonneg (by omega); have wt : IntKind.i64.wrap ((t + 1 + (n : Int)) % 16) = (t + 1 + n) % 16 := IntWalk.i64_in _ (by omega)
 refine P5 ?_
 refine lx [12] ?_; clear sl1 sl5; intro _ sl1 sl5 sl12; refine ln ?_; intros
 refine cond_E sl12 (by decide) ?_ ?_ <;> (clear sl12; intro h12 sl12)
 ·skip
  have hn1 := afterT_no hn (by simpa using h12); clear et wt
  refine nr ?_; intros
  refine P3 ?_
  clear sl5 sl12; refine lx [5] ?_; clear sl1; intro _ sl1 sl5; refine ln ?_; intros
  refine ⟨_, _, rfl, ?_, n + 1, rfl, (by rw [sl5, IntWalk.i64_in _ (by omega)]; congr 1; omega), (sl1.trans hc0_1.out.symm), HL6.out, by omega⟩
  omega
 ·skip
  have Hf := hid (afterT_in hn (by simpa using h12)); clear et wt
  refine zx ?_; intros
  clear HL6; clear hc0_1; refine region_F ?_; refine P2 ?_; clear sl1 sl5 sl12; refine lx [4] ?_; intro _ sl4; refine ln ?_; intros
  refine ret_F _ (res_t Tryz.results128 ((getD_F (by decide)).trans sl4)) ?_; exact ⟨ret_int Hf.out.symm, HB.out.toBelow⟩


theorem t1O_bd (o : Ord) (t : Int) : t ≤ t1O o t ∧ t1O o t ≤ t + 16 := by have := afterT_gt t o.fr; unfold t1O; split <;> omega
theorem t2O_bd (o : Ord) (t : Int) : t ≤ t2O o t ∧ t2O o t ≤ t + 32 := by have h1 := t1O_bd o t; have := afterT_gt (t1O o t) o.tt; unfold t2O; split <;> omega
theorem nextO_bd {o : Ord} (b : Bool) (ho : (0 ≤ o.op ∧ o.op ≤ 7) ∧ (0 ≤ o.fr ∧ o.fr ≤ 127) ∧ (0 ≤ o.tt ∧ o.tt ≤ 127) ∧ (0 ≤ o.nx ∧ o.nx ≤ 127)) : 0 ≤ nextO o b ∧ nextO o b ≤ 127 := by unfold nextO; split <;> omega

theorem XW1b {A : Prop} (e : A := by exact ⟨trv, _, rfl, (by rw [sl25]; have h := h23; simp at h; simp [h]), (sl3.trans hj14_3.out.symm), (sl8.trans hj14_8.out.symm), (sl9.trans hj14_9.out.symm), HL15.out⟩) : A := e
theorem XW1c {A : Prop} (e : A := by exact ⟨trv, _, rfl, (by rw [sl35]; have h := h31; simp at h; congr 1; rw [Bool.eq_iff_iff]; simp [h]), (sl3.trans hj28_3.out.symm), (sl8.trans hj28_8.out.symm), (sl9.trans hj28_9.out.symm), HL29.out⟩) : A := e
theorem rwhen_any (o : Ord) (t : Int) (neg : Bool) (w : World) (ht : 0 ≤ t ∧ t ≤ 1000000000) (ho : (0 ≤ o.op ∧ o.op ≤ 7) ∧ (0 ≤ o.fr ∧ o.fr ≤ 127) ∧ (0 ≤ o.tt ∧ o.tt ≤ 127) ∧ (0 ≤ o.nx ∧ o.nx ≤ 127)) :
    Calls Tryz.prog 109 #[.agg #[.int .i64 o.op, .int .i64 o.fr, .int .i64 o.tt, .int .i64 o.nx], .int .i64 t, .bool neg] w (fun e w' => e = .returned (.tuple #[.int .i64 (nextO o neg), .int .i64 (untilO o t neg)]) ∧ Below w.heap.size w w') := by
 obtain ⟨⟨o1, o2⟩, ⟨o3, o4⟩, ⟨o5, o6⟩, o7, o8⟩ := ho; have b1 := t1O_bd o t; have b2 := t2O_bd o t; have b3 := timeO_gt o t; have b4 := nextO_bd neg ⟨⟨o1, o2⟩, ⟨o3, o4⟩, ⟨o5, o6⟩, o7, o8⟩
 refine enter_F Tryz.func109 rfl Tryz.ntmps109 (by simp) ?_
 intro s0 hs; have sl0 : s0 0 = .agg #[.int .i64 o.op, .int .i64 o.fr, .int .i64 o.tt, .int .i64 o.nx] := hs 0 (by simp); have sl1 : s0 1 = .int .i64 t := hs 1 (by simp); have sl2 : s0 2 = .bool neg := hs 2 (by simp); clear hs; have HB := hid (OldB.refl [] w)
 refine nr ?_; intros; refine pa (fun w1 B3 hB kb3 hb => ?_); have gb3 := HB.out.gB hB; have eb3 := eB hB; clear hB; replace HB := bE HB hb; clear hb; have qb3 := kb3.1; refine P2 ?_; clear sl0; refine lx [3] ?_; clear sl1 sl2; intro _ sl1 sl2 sl3; refine lr ?_; intros; refine pl ?_; have cb3 := clx kb3
 refine P4 ?_
 clear sl1; refine lx [8,9] ?_; clear sl2 sl3; intro _ sl2 sl3 sl8 sl9; refine lr ?_; intros
 refine P3 ?_
 refine lx [15] ?_; clear sl2 sl3 sl8 sl9; intro s5 sl2 sl3 sl8 sl9 sl15; refine ln ?_; intros
 clear cb3; have hj6_2 := hid sl2; have hj6_3 := hid sl3; have hj6_8 := hid sl8; refine cut_any (fun sJ wJ => sJ 9 = .int .i64 (t1O o t) ∧ sJ 2 = s5 2 ∧ sJ 3 = s5 3 ∧ sJ 8 = s5 8 ∧ OldB [] w1 wJ) ?_ ?_
 ·skip
  have HL7 := hid (OldB.refl [] w1)
  refine cond_E sl15 (by decide) ?_ ?_ <;> (clear sl15; intro h15 sl15)
  ·skip
   refine nr ?_; intros; refine P2 ?_; have cb3 := clx kb3; refine pl ?_; refine cal (rafter_any t o.fr _ (by omega) (by omega)) ?_; rintro e _ ⟨rfl, hb⟩; refine ⟨_, rfl, ?_⟩; clear cb3; clear qb3; revert HB; revert HL7; revert kb3; refine uA hb ?_; clear hb; intro kb3 qb3 HL7 HB; refine pl ?_; clear sl9 sl15; refine lx [9] ?_; clear sl2 sl3 sl8; intro _ sl2 sl3 sl8 sl9; refine ln ?_; intros
   exact ⟨trv, _, rfl, (by rw [sl9]; unfold t1O; rw [if_neg (by simpa using h15)]), (sl2.trans hj6_2.out.symm), (sl3.trans hj6_3.out.symm), (sl8.trans hj6_8.out.symm), HL7.out⟩
  ·skip
   refine zx ?_; intros
   exact ⟨trv, _, rfl, (by rw [sl9]; unfold t1O; rw [if_pos (by simpa using h15)]), (sl2.trans hj6_2.out.symm), (sl3.trans hj6_3.out.symm), (sl8.trans hj6_8.out.symm), HL7.out⟩
 ·skip
  clear sl9 sl15; rintro s11 w12 ⟨sl9, e2, e3, e8, hb⟩; replace sl2 := e2.trans sl2; clear e2 hj6_2; replace sl3 := e3.trans sl3; clear e3 hj6_3; replace sl8 := e8.trans sl8; clear e8 hj6_8; clear qb3; revert HB; revert kb3; refine uO hb ?_; clear hb; intro kb3 qb3 HB
  refine zx ?_; intros
  have hj14_3 := hid sl3; have hj14_8 := hid sl8; have hj14_9 := hid sl9; refine cut_any (fun sJ wJ => sJ 25 = .bool (decide (o.op = 5) && neg) ∧ sJ 3 = s11 3 ∧ sJ 8 = s11 8 ∧ sJ 9 = s11 9 ∧ OldB [] w12 wJ) ?_ ?_
  ·skip
   have HL15 := hid (OldB.refl [] w12); refine region_F ?_; refine pl ?_; have cb3 := clx kb3
   refine P3 ?_
   refine lx [23] ?_; clear sl2 sl3 sl8 sl9; intro _ sl2 sl3 sl8 sl9 sl23
   refine boolG sl23 (fun sl23' h23 => ?_) (fun sl23' h23 => ?_) <;> (clear sl23; have sl23 := sl23'; clear sl23')
   ·skip
    refine py ?_; refine pl ?_; clear sl2 sl23; refine lx [25] ?_; clear sl3 sl8 sl9; intro _ sl3 sl8 sl9 sl25; refine ln ?_; intros
    clear cb3; exact XW1b
   ·skip
    refine pn false ?_; refine pl ?_; clear sl2 sl23; refine lx [25] ?_; clear sl3 sl8 sl9; intro _ sl3 sl8 sl9 sl25; refine ln ?_; intros
    clear cb3; exact XW1b
  ·skip
   clear sl2; rintro s19 w20 ⟨sl25, e3, e8, e9, hb⟩; replace sl3 := e3.trans sl3; clear e3 hj14_3; replace sl8 := e8.trans sl8; clear e8 hj14_8; replace sl9 := e9.trans sl9; clear e9 hj14_9; clear qb3; revert HB; revert kb3; refine uO hb ?_; clear hb; intro kb3 qb3 HB
   refine zx ?_; intros
   have hj22_3 := hid sl3; have hj22_9 := hid sl9; refine cut_any (fun sJ wJ => sJ 8 = .int .i64 (nextO o neg) ∧ sJ 3 = s19 3 ∧ sJ 9 = s19 9 ∧ OldB [] w20 wJ) ?_ ?_
   ·skip
    have HL23 := hid (OldB.refl [] w20)
    refine cond_E sl25 (by decide) ?_ ?_ <;> (clear sl25; intro h25 sl25)
    ·skip
     refine nr ?_; intros; refine pl ?_; have cb3 := clx kb3; refine P2 ?_; clear sl8 sl25; refine lx [8] ?_; clear sl3 sl9; intro _ sl3 sl9 sl8; refine ln ?_; intros
     clear cb3; exact ⟨trv, _, rfl, (by rw [sl8]; unfold nextO; rw [if_pos (by simpa using h25)]), (sl3.trans hj22_3.out.symm), (sl9.trans hj22_9.out.symm), HL23.out⟩
    ·skip
     refine zx ?_; intros
     exact ⟨trv, _, rfl, (by rw [sl8]; unfold nextO; rw [if_neg (by simpa using h25)]), (sl3.trans hj22_3.out.symm), (sl9.trans hj22_9.out.symm), HL23.out⟩
   ·skip
    clear sl8 sl25; rintro s25 w26 ⟨sl8, e3, e9, hb⟩; replace sl3 := e3.trans sl3; clear e3 hj22_3; replace sl9 := e9.trans sl9; clear e9 hj22_9; clear qb3; revert HB; revert kb3; refine uO hb ?_; clear hb; intro kb3 qb3 HB
    refine zx ?_; intros
    have hj28_3 := hid sl3; have hj28_8 := hid sl8; have hj28_9 := hid sl9; refine cut_any (fun sJ wJ => sJ 35 = .bool (!decide (o.op = 5 ∨ o.op = 7)) ∧ sJ 3 = s25 3 ∧ sJ 8 = s25 8 ∧ sJ 9 = s25 9 ∧ OldB [] w26 wJ) ?_ ?_
    ·skip
     have HL29 := hid (OldB.refl [] w26); refine region_F ?_; refine pl ?_; have cb3 := clx kb3
     refine P3 ?_
     refine lx [31] ?_; clear sl3 sl8 sl9; intro _ sl3 sl8 sl9 sl31
     refine boolG sl31 (fun sl31' h31 => ?_) (fun sl31' h31 => ?_) <;> (clear sl31; have sl31 := sl31'; clear sl31')
     ·skip
      iterate 3 refine py ?_
      refine pl ?_; clear sl31; refine lx [35] ?_; clear sl3 sl8 sl9; intro _ sl3 sl8 sl9 sl35; refine ln ?_; intros
      clear cb3; exact XW1c
     ·skip
      refine F3 ?_; refine pl ?_; clear sl31; refine lx [35] ?_; clear sl3 sl8 sl9; intro _ sl3 sl8 sl9 sl35; refine ln ?_; intros
      clear cb3; exact XW1c
    ·skip
     rintro s33 w34 ⟨sl35, e3, e8, e9, hb⟩; replace sl3 := e3.trans sl3; clear e3 hj28_3; replace sl8 := e8.trans sl8; clear e8 hj28_8; replace sl9 := e9.trans sl9; clear e9 hj28_9; clear qb3; revert HB; revert kb3; refine uO hb ?_; clear hb; intro kb3 qb3 HB
     refine zx ?_; intros
     have hj36_3 := hid sl3; have hj36_8 := hid sl8; refine cut_any (fun sJ wJ => sJ 9 = .int .i64 (t2O o t) ∧ sJ 3 = s33 3 ∧ sJ 8 = s33 8 ∧ OldB [] w34 wJ) ?_ ?_
     ·skip
      have HL37 := hid (OldB.refl [] w34)
      refine cond_E sl35 (by decide) ?_ ?_ <;> (clear sl35; intro h35 sl35)
      ·skip
       refine nr ?_; intros; refine P2 ?_; have cb3 := clx kb3; refine pl ?_; refine cal (rafter_any (t1O o t) o.tt _ (by omega) (by omega)) ?_; rintro e _ ⟨rfl, hb⟩; refine ⟨_, rfl, ?_⟩; clear cb3; clear qb3; revert HB; revert HL37; revert kb3; refine uA hb ?_; clear hb; intro kb3 qb3 HL37 HB; refine pl ?_; clear sl9 sl35; refine lx [9] ?_; clear sl3 sl8; intro _ sl3 sl8 sl9; refine ln ?_; intros
       exact ⟨trv, _, rfl, (by rw [sl9]; unfold t2O; rw [if_neg (by simpa using h35)]), (sl3.trans hj36_3.out.symm), (sl8.trans hj36_8.out.symm), HL37.out⟩
      ·skip
       refine zx ?_; intros
       exact ⟨trv, _, rfl, (by rw [sl9]; unfold t2O; rw [if_pos (by have h := h35; simp at h; omega)]), (sl3.trans hj36_3.out.symm), (sl8.trans hj36_8.out.symm), HL37.out⟩
     ·skip
      clear sl9 sl35; rintro s41 w42 ⟨sl9, e3, e8, hb⟩; replace sl3 := e3.trans sl3; clear e3 hj36_3; replace sl8 := e8.trans sl8; clear e8 hj36_8; clear qb3; revert HB; revert kb3; refine uO hb ?_; clear hb; intro kb3 qb3 HB
      refine nr ?_; intros; refine pl ?_; have cb3 := clx kb3; refine P2 ?_; refine lx [42] ?_; clear sl3 sl8 sl9; intro s44 sl3 sl8 sl9 sl42; refine ln ?_; intros
      clear cb3; have hj45_8 := hid sl8; refine cut_any (fun sJ wJ => sJ 9 = .int .i64 (timeO o t) ∧ sJ 8 = s44 8 ∧ OldB [] w42 wJ) ?_ ?_
      ·skip
       have HL46 := hid (OldB.refl [] w42)
       refine cond_E sl42 (by decide) ?_ ?_ <;> (clear sl42; intro h42 sl42)
       ·skip
        refine nr ?_; intros; have w12 : IntKind.i64.wrap (t2O o t + 12) = t2O o t + 12 := IntWalk.i64_in _ (by omega)
        refine P3 ?_
        have cb3 := clx kb3; refine pl ?_; refine cal (rafter_any (t2O o t + 12) o.tt _ (by omega) (by omega)) ?_; rintro e _ ⟨rfl, hb⟩; refine ⟨_, rfl, ?_⟩; clear cb3; clear qb3; revert HB; revert HL46; revert kb3; refine uA hb ?_; clear hb; intro kb3 qb3 HL46 HB; refine pl ?_; clear sl9 sl3 sl42; refine lx [9] ?_; clear sl8; intro _ sl8 sl9; refine ln ?_; intros
        exact ⟨trv, _, rfl, (by rw [sl9]; unfold timeO; rw [if_pos (by simpa using h42)]), (sl8.trans hj45_8.out.symm), HL46.out⟩
       ·skip
        refine zx ?_; intros
        exact ⟨trv, _, rfl, (by rw [sl9]; unfold timeO; rw [if_neg (by simpa using h42)]), (sl8.trans hj45_8.out.symm), HL46.out⟩
      ·skip
       clear sl3 sl9 sl42; rintro s50 w51 ⟨sl9, e8, hb⟩; replace sl8 := e8.trans sl8; clear e8 hj45_8; clear qb3; revert HB; revert kb3; refine uO hb ?_; clear hb; intro kb3 qb3 HB
       refine nr ?_; intros
       refine P3 ?_
       refine cal (rafter_any (timeO o t) (nextO o neg) _ (by omega) (by omega)) ?_; rintro e _ ⟨rfl, hb⟩; refine ⟨_, rfl, ?_⟩; clear qb3; revert HB; revert kb3; refine uA hb ?_; clear hb; intro kb3 qb3 HB; refine P2 ?_; clear sl8 sl9; refine lx [6,7] ?_; intro _ sl6 sl7; refine ln ?_; intros
       refine ret_F _ (res_tt Tryz.results109 ((getD_F (by decide)).trans sl6) ((getD_F (by decide)).trans sl7)) ?_; exact ⟨rfl, HB.out.toBelow⟩

theorem rodd_any (a : Option Addr) (c : Nat) (l : List Int) (w : World) (hR : RdInts w a l) (hl : l.length ≤ 9223372036854775807) :
    Calls Tryz.prog 100 #[.slice a l.length c] w (fun e w' => e = .returned (.int .i64 (oddI l)) ∧ Below w.heap.size w w') := by
 have HR := hid hR; clear hR
 refine enter_F Tryz.func100 rfl Tryz.ntmps100 (by simp) ?_
 intro s0 hs; have sl0 : s0 0 = .slice a l.length c := hs 0 (by simp); clear hs; have HB := hid (OldB.refl [] w)
 refine nr ?_; intros; refine pl ?_; refine lx [] ?_; clear sl0; intro s1 sl0; refine lr ?_; intros; refine pl ?_; refine lx [3] ?_; clear sl0; intro s2 sl0 sl3; refine ln ?_; intros
 have hc0_0 := hid sl0; refine loop_F (n := 17) (fun kJ sJ wJ => ∃ (i : Nat), kJ = l.length - i ∧ sJ 3 = .int .i64 (i : Int) ∧ sJ 0 = s2 0 ∧ OldB [] w wJ ∧ i ≤ l.length ∧ (Hid (∀ j, j < i → wordB (l.getD j 0) = true))) ⟨0, rfl, (by first | exact sl3 | (rw [sl3]; go_num) | (rw [sl3]; rfl)), rfl, OldB.refl _ _, Nat.zero_le _, hid (fun j hj => by omega)⟩ ?_; clear sl3; rintro kJ s3 w4 ⟨i, rfl, sl3, e0, hb5, hil, Hall⟩; replace sl0 := e0.trans sl0; clear e0; have hoJ := hb5; replace HB := mO HB hb5; clear hb5; have HoJ := hid hoJ; clear hoJ; have HL6 := HoJ; clear HoJ
 refine nr ?_; intros
 refine P4 ?_
 refine lx [7] ?_; clear sl0 sl3; intro s7 sl0 sl3 sl7; refine ln ?_; intros
 refine cond_E sl7 (by decide) ?_ ?_ <;> (clear sl7; intro h7 sl7)
 ·skip
  have hi : i < l.length := by simpa using h7
  have hii : (i : Int) < l.length := by omega
  obtain ⟨b, off, rfl, hb, c0⟩ := RdInts.ne (Rd.oldB HR.out HB.out (by simp)) hi; obtain ⟨y, hy⟩ : ∃ z, l[i] = z := ⟨_, rfl⟩; rw [hy] at c0; have Hy := hid (show l.getD i 0 = y by rw [getD_get hi, hy]); clear hy
  refine nr ?_; intros
  refine P4 ?_
  refine cal (rword_any y _) ?_; rintro e w' ⟨rfl, rfl⟩; refine ⟨_, rfl, ?_⟩; refine pl ?_; clear sl7; refine lx [15] ?_; clear sl0 sl3; intro s9 sl0 sl3 sl15; refine ln ?_; intros
  refine cond_E sl15 (by decide) ?_ ?_ <;> (clear sl15; intro h15 sl15)
  ·skip
   have Hf := hid (show oddI l = i from oddU_found hi Hall.out (by rw [Hy.out]; simpa using h15))
   refine nr ?_; intros; refine P2 ?_; clear sl0 sl3 sl15; refine lx [2] ?_; intro s10 sl2; refine ln ?_; intros
   refine ret_F _ (res_t Tryz.results100 ((getD_F (by decide)).trans sl2)) ?_; exact ⟨ret_int Hf.out.symm, HB.out.toBelow⟩
  ·skip
   have Hw := hid (show wordB (l.getD i 0) = true by rw [Hy.out]; simpa using h15)
   refine nr ?_; intros
   refine P3 ?_
   clear sl3 sl15; refine lx [3] ?_; clear sl0; intro s11 sl0 sl3; refine ln ?_; intros
   refine ⟨_, _, rfl, ?_, i + 1, rfl, (rL sl3), (sl0.trans hc0_0.out.symm), HL6.out, by omega, hid (fun j hj => by rcases Nat.lt_or_ge j i with h | h <;> first | exact Hall.out j h | (have e : j = i := (by omega); subst e; exact Hw.out))⟩
   omega
 ·skip
  have hi : i = l.length := by have h := h7; simp at h; omega
  have Hn := hid (show oddI l = -1 from oddU_none (fun j hj => Hall.out j (by omega)))
  refine zx ?_; intros
  clear HL6; clear hc0_0; refine region_F ?_; refine pl ?_; clear sl0 sl3 sl7; refine lx [2] ?_; intro s12 sl2; refine ln ?_; intros
  refine ret_F _ (res_t Tryz.results100 ((getD_F (by decide)).trans sl2)) ?_; exact ⟨ret_int Hn.out.symm, HB.out.toBelow⟩
end


end Go.Proofs.YtleknidlgmmgbaaGreat
