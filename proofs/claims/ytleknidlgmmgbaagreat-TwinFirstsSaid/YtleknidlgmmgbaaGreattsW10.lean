/- The program's order: passing, after. -/
import Derived.Test.YtleknidlgmmgbaaGreattsW3
import Derived.Test.YtleknidlgmmgbaaGreattsG13
import Derived.Test.YtleknidlgmmgbaaGreattsCZ
set_option linter.all false
set_option maxRecDepth 100000
set_option maxHeartbeats 16000000
namespace Go.Proofs.YtleknidlgmmgbaaGreat

section
open Go.RowKit


/-- the first one with p; -1: none -/
def idxOf {α : Type} (p : α → Bool) (l : List α) : Int := match l.findIdx? p with | some i => i | none => -1
theorem idx_found {α : Type} {p : α → Bool} {l : List α} {k : Nat} (hk : k < l.length) (h : (l.take k).any p = false) (hp : p l[k] = true) : idxOf p l = k := by
  have : l.findIdx? p = some k := by
    rw [List.findIdx?_eq_some_iff_getElem]; refine ⟨hk, hp, fun j hj => ?_⟩; rw [List.any_eq_false] at h
    exact by simpa using h l[j] (List.mem_take_iff_getElem.2 ⟨j, by omega, rfl⟩)
  unfold idxOf; rw [this]
theorem idx_none {α : Type} {p : α → Bool} {l : List α} (h : l.any p = false) : idxOf p l = -1 := by
  have : l.findIdx? p = none := by
    rw [List.findIdx?_eq_none_iff]; intro x hx; rw [List.any_eq_false] at h
    simpa using h x hx
  unfold idxOf; rw [this]
theorem idx_any {α : Type} (p : α → Bool) (l : List α) : decide (0 ≤ idxOf p l) = l.any p := by
  cases h : l.any p with
  | false => rw [idx_none h]; rfl
  | true =>
    unfold idxOf
    cases hf : l.findIdx? p with
    | none =>
      rw [List.findIdx?_eq_none_iff] at hf; rw [List.any_eq_true] at h; obtain ⟨x, hx, hp⟩ := h; rw [hf x hx] at hp; cases hp
    | some i => simp
theorem idx_any' {α : Type} (p : α → Bool) (l : List α) : decide (idxOf p l ≥ 0) = l.any p := idx_any p l
theorem rd1 {w : World} {g : Nat} {x : Int} (h : Cells w g [.int .i64 x]) : RdInts w (some ⟨g, 0, none⟩) [x] := Cells.rd (f := int1) (m := 1) (l := [x]) (fun _ => rfl) h
def outB (hi : Int) (l : List Int) : Bool := l.any (fun n => !inI n 0 hi)
theorem out1 {hi x : Int} : outB hi [x] = (!inI x 0 hi) := by simp [outB]
theorem signed_eq {x : Int} (hx : 0 ≤ x ∧ x ≤ 16777215) : x - x / 8388608 * 16777216 = signI x := by unfold signI; split <;> omega

theorem oout1_any (hi n : Int) (B : Nat) (w : World) (hB : w.cell? ⟨B, 0, none⟩ = some (.int .i64 hi)) :
    Calls Tryz.prog 107 #[.int .i64 n, .pointer (some ⟨B, 0, none⟩)] w (fun e w' => e = .returned (.bool (!inI n 0 hi)) ∧ w = w') := by
 refine enter_F Tryz.func107 rfl Tryz.ntmps107 (by simp) ?_
 intro s0 hs; have sl0 : s0 0 = .int .i64 n := hs 0 (by simp); have sl1 : s0 1 = .pointer (some ⟨B, 0, none⟩) := hs 1 (by simp); clear hs; have HB := hid (OldB.refl [] w)
 refine nr ?_; intros; refine pl ?_; refine lx [] ?_; clear sl0 sl1; intro _ sl0 sl1; refine lr ?_; intros
 refine P3 ?_
 refine lx [6] ?_; clear sl0 sl1; intro _ sl0 sl1 sl6
 refine boolG sl6 (fun sl6' h6 => ?_) (fun sl6' h6 => ?_) <;> (clear sl6; have sl6 := sl6'; clear sl6')
 ·skip
  refine pn true ?_; refine pn true ?_; refine pn true ?_; refine P2 ?_; clear sl0 sl1 sl6; refine lx [3] ?_; intro _ sl3; refine ln ?_; intros
  refine ret_F _ (res_t Tryz.results107 ((getD_F (by decide)).trans sl3)) ?_; exact ⟨ret_bool (by unfold inI; rw [Bool.eq_iff_iff]; simp at *; try omega), rfl⟩
 ·skip
  iterate 3 refine py ?_
  refine P2 ?_; clear sl0 sl1 sl6; refine lx [3] ?_; intro _ sl3; refine ln ?_; intros
  refine ret_F _ (res_t Tryz.results107 ((getD_F (by decide)).trans sl3)) ?_; exact ⟨ret_bool (by unfold inI; rw [Bool.eq_iff_iff]; simp at *; try omega), rfl⟩

theorem idxInt_any (a : Option Addr) (c : Nat) (l : List Int) (hi : Int) (B : Nat) (w : World) (hl : l.length ≤ 9223372036854775807) (hR : RdInts w a l) (hB : w.cell? ⟨B, 0, none⟩ = some (.int .i64 hi)) (hBs : B < w.heap.size) :
    Calls Tryz.prog 102 #[.slice a l.length c, .func (.func 107) #[] #[.pointer (some ⟨B, 0, none⟩)]] w (fun e w' => e = .returned (.int .i64 (idxOf (fun n => !inI n 0 hi) l)) ∧ Below w.heap.size w w') := by
 have HR := hid hR; clear hR
 refine enter_F Tryz.func102 rfl Tryz.ntmps102 (by simp) ?_
 intro s0 hs; have sl0 : s0 0 = .slice a l.length c := hs 0 (by simp); have sl1 : s0 1 = .func (.func 107) #[] #[.pointer (some ⟨B, 0, none⟩)] := hs 1 (by simp); clear hs; have HB := hid (OldB.refl [] w)
 refine nr ?_; intros; refine pl ?_; refine lx [] ?_; clear sl0 sl1; intro s1 sl0 sl1; refine lr ?_; intros
 refine P3 ?_
 refine lx [7,8] ?_; clear sl0 sl1; intro s2 sl0 sl1 sl7 sl8; refine ln ?_; intros
 have hc0_0 := hid sl0; have hc0_1 := hid sl1; have hc0_7 := hid sl7; refine loop_F (n := 19) (fun kJ sJ wJ => ∃ (k : Nat), kJ = l.length - k ∧ sJ 8 = .int .i64 (k : Int) ∧ sJ 0 = s2 0 ∧ sJ 1 = s2 1 ∧ sJ 7 = s2 7 ∧ OldB [] w wJ ∧ k ≤ l.length ∧ Hid ((l.take k).any (fun n => !inI n 0 hi) = false)) ⟨0, rfl, (by first | exact sl8 | (rw [sl8]; go_num) | (rw [sl8]; rfl)), rfl, rfl, rfl, OldB.refl _ _, Nat.zero_le _, hid rfl⟩ ?_; clear sl8; rintro kJ s3 w4 ⟨k, rfl, sl8, e0, e1, e7, hb5, hkl, hno⟩; replace sl0 := e0.trans sl0; clear e0; replace sl1 := e1.trans sl1; clear e1; replace sl7 := e7.trans sl7; clear e7; have hoJ := hb5; replace HB := mO HB hb5; clear hb5; have HoJ := hid hoJ; clear hoJ; have HL6 := HoJ; clear HoJ
 refine nr ?_; intros; refine pl ?_; refine lx [9] ?_; clear sl0 sl1 sl7 sl8; intro s7 sl0 sl1 sl7 sl8 sl9; refine ln ?_; intros
 refine cond_E sl9 (by decide) ?_ ?_ <;> (clear sl9; intro h9 sl9)
 ·skip
  have hlt : k < l.length := by simpa using h9
  obtain ⟨b, off, rfl, hb, h0⟩ := RdInts.ne (Rd.oldB HR.out HB.out (by simp)) hlt
  refine nr ?_; intros; refine P2 ?_; clear sl9; refine lx [5] ?_; clear sl0 sl1 sl7 sl8; intro s8 sl0 sl1 sl7 sl8 sl5; refine lr ?_; intros
  refine P5 ?_
  refine cal (oout1_any hi l[k] B _ ((HB.out.toBelow.cell (p := ⟨B, 0, none⟩) hBs).trans hB)) ?_; rintro e w' ⟨rfl, rfl⟩; refine ⟨_, rfl, ?_⟩; refine lx [16] ?_; clear sl0 sl1 sl5 sl7 sl8; intro s10 sl0 sl1 sl5 sl7 sl8 sl16; refine ln ?_; intros
  refine cond_E sl16 (by decide) ?_ ?_ <;> (clear sl16; intro h16 sl16)
  ·skip
   have Hpk := hid (idx_found hlt hno.out h16)
   refine nr ?_; intros; refine P2 ?_; clear sl0 sl1 sl5 sl7 sl8 sl16; refine lx [4] ?_; intro s11 sl4; refine ln ?_; intros
   refine ret_F _ (res_t Tryz.results102 ((getD_F (by decide)).trans sl4)) ?_; exact ⟨ret_int Hpk.out.symm, HB.out.toBelow⟩
  ·skip
   have hpk := hid h16
   refine nr ?_; intros; refine P2 ?_; clear sl8 sl5 sl16; refine lx [8] ?_; clear sl0 sl1 sl7; intro s12 sl0 sl1 sl7 sl8; refine ln ?_; intros
   refine ⟨_, _, rfl, ?_, k + 1, rfl, (rL sl8), (sl0.trans hc0_0.out.symm), (sl1.trans hc0_1.out.symm), (sl7.trans hc0_7.out.symm), HL6.out, by omega, hid (by rw [any_take_succ _ _ _ hlt, hno.out, hpk.out]; rfl)⟩
   omega
 ·skip
  have hge : l.length ≤ k := by simpa using h9
  have hno2 : l.any (fun n => !inI n 0 hi) = false := by have := hno.out; rwa [List.take_of_length_le hge] at this
  have Hno := hid hno2; clear hno2
  refine zx ?_; intros
  clear HL6; clear hc0_0 hc0_1 hc0_7; refine region_F ?_; refine pl ?_; clear sl0 sl1 sl7 sl8 sl9; refine lx [4] ?_; intro s13 sl4; refine ln ?_; intros
  refine ret_F _ (res_t Tryz.results102 ((getD_F (by decide)).trans sl4)) ?_; exact ⟨ret_int (idx_none Hno.out).symm, HB.out.toBelow⟩

theorem conInt_any (a : Option Addr) (c : Nat) (l : List Int) (hi : Int) (B : Nat) (w : World) (hl : l.length ≤ 9223372036854775807) (hR : RdInts w a l) (hB : w.cell? ⟨B, 0, none⟩ = some (.int .i64 hi)) (hBs : B < w.heap.size) :
    Calls Tryz.prog 106 #[.slice a l.length c, .func (.func 107) #[] #[.pointer (some ⟨B, 0, none⟩)]] w (fun e w' => e = .returned (.bool (outB hi l)) ∧ Below w.heap.size w w') := by
 have HR := hid hR; clear hR
 refine enter_F Tryz.func106 rfl Tryz.ntmps106 (by simp) ?_
 intro s0 hs; have sl0 : s0 0 = .slice a l.length c := hs 0 (by simp); have sl1 : s0 1 = .func (.func 107) #[] #[.pointer (some ⟨B, 0, none⟩)] := hs 1 (by simp); clear hs; have HB := hid (OldB.refl [] w)
 refine nr ?_; intros; refine pl ?_; refine lx [] ?_; clear sl0 sl1; intro _ sl0 sl1; refine lr ?_; intros; refine P2 ?_; refine cal (idxInt_any a c l hi B _ hl HR.out hB hBs) ?_; rintro e _ ⟨rfl, hb⟩; refine ⟨_, rfl, ?_⟩; replace HB := bE HB hb; clear hb; refine P2 ?_; clear sl0 sl1; refine lx [4] ?_; intro _ sl4; refine ln ?_; intros
 refine ret_F _ (res_t Tryz.results106 ((getD_F (by decide)).trans sl4)) ?_; exact ⟨ret_bool (idx_any' _ _), HB.out.toBelow⟩

theorem oout_any (hi : Int) (a : Option Addr) (c : Nat) (l : List Int) (w : World) (hl : l.length ≤ 9223372036854775807) (hR : RdInts w a l) :
    Calls Tryz.prog 82 #[.int .i64 hi, .slice a l.length c] w (fun e w' => e = .returned (.bool (outB hi l)) ∧ Below w.heap.size w w') := by
 have HR := hid hR; clear hR
 refine enter_F Tryz.func82 rfl Tryz.ntmps82 (by simp) ?_
 intro s0 hs; have sl0 : s0 0 = .int .i64 hi := hs 0 (by simp); have sl1 : s0 1 = .slice a l.length c := hs 1 (by simp); clear hs; have HB := hid (OldB.refl [] w)
 refine nr ?_; intros; refine pa (fun _ B2 hB kb2 hb => ?_); have gb2 := HB.out.gB hB; have eb2 := eB hB; clear hB; replace HB := bE HB hb; clear hb; have qb2 := kb2.1; refine pl ?_; clear sl0; refine lx [2] ?_; clear sl1; intro _ sl1 sl2; refine lr ?_; intros; refine P2 ?_; refine cal (conInt_any a c l hi B2 _ hl (Rd.oldB HR.out HB.out (by simp)) (kb2.cell 0 rfl) kb2.1) ?_; rintro e _ ⟨rfl, hb⟩; refine ⟨_, rfl, ?_⟩; clear qb2; revert HB; revert kb2; refine uA hb ?_; clear hb; intro kb2 qb2 HB; refine pl ?_; clear sl1 sl2; refine lx [4] ?_; intro _ sl4; refine ln ?_; intros
 refine ret_F _ (res_t Tryz.results82 ((getD_F (by decide)).trans sl4)) ?_; exact ⟨rfl, HB.out.toBelow⟩


theorem oout_1 (hi x : Int) (B c : Nat) (w : World) (hB : Cells w B [.int .i64 x]) : Calls Tryz.prog 82 #[.int .i64 hi, .slice (some ⟨B, 0, none⟩) 1 c] w (fun e w' => e = .returned (.bool (!inI x 0 hi)) ∧ Below w.heap.size w w') := by
  have := oout_any hi (some ⟨B, 0, none⟩) c [x] w (by simp) (rd1 hB); rw [out1] at this; exact this

theorem unpack_any (x q m : Int) (w : World) (hx : 0 ≤ x ∧ x ≤ 16777215) (hq : x / 128 = q) (hm : x % 128 = m) :
    Calls Tryz.prog 108 #[.int .i64 x] w (fun e w' => e = .returned (.tuple #[.int .i64 q, .int .i64 m]) ∧ w = w') := by
 have hb := i64_and127' x
 have hs : x.fdiv 128 = q := by rw [← hq, Int.fdiv_eq_ediv_of_nonneg _ (by decide)]
 rw [hm] at hb
 refine enter_F Tryz.func108 rfl Tryz.ntmps108 (by simp) ?_
 intro s0 hs; have sl0 : s0 0 = .int .i64 x := hs 0 (by simp); clear hs; have HB := hid (OldB.refl [] w)
 refine nr ?_; intros; refine P2 ?_; refine lx [] ?_; clear sl0; intro s1 sl0; refine lr ?_; intros
 refine P6 ?_
 clear sl0; refine lx [2,3] ?_; intro s2 sl2 sl3; refine ln ?_; intros
 refine ret_F _ (res_tt Tryz.results108 ((getD_F (by decide)).trans sl2) ((getD_F (by decide)).trans sl3)) ?_; exact ⟨rfl, rfl⟩

theorem signed_any (x : Int) (w : World) (hx : 0 ≤ x ∧ x ≤ 16777215) :
    Calls Tryz.prog 118 #[.int .i64 x] w (fun e w' => e = .returned (.int .i64 (signI x)) ∧ w = w') := by
 have hs : x.fdiv 8388608 = x / 8388608 := Int.fdiv_eq_ediv_of_nonneg _ (by decide); have he := signed_eq hx; obtain ⟨q, hq⟩ : ∃ q, x / 8388608 = q := ⟨_, rfl⟩; rw [hq] at hs he; have w1 : IntKind.i64.wrap (q * 16777216) = q * 16777216 := IntWalk.i64_in _ (by omega)
 have w2 : IntKind.i64.wrap (signI x) = signI x := by rw [← he]; exact IntWalk.i64_in _ (by omega)
 refine enter_F Tryz.func118 rfl Tryz.ntmps118 (by simp) ?_
 intro s0 hs; have sl0 : s0 0 = .int .i64 x := hs 0 (by simp); clear hs; have HB := hid (OldB.refl [] w)
 refine nr ?_; intros; refine pl ?_; refine lx [] ?_; clear sl0; intro _ sl0; refine lr ?_; intros
 refine P6 ?_
 clear sl0; refine lx [2] ?_; intro _ sl2; refine ln ?_; intros
 refine ret_F _ (res_t Tryz.results118 ((getD_F (by decide)).trans sl2)) ?_; exact ⟨rfl, rfl⟩

theorem odecode_any (x : Int) (w : World) (hx : 0 ≤ x ∧ x ≤ 16777215) :
    Calls Tryz.prog 83 #[.int .i64 x] w (fun e w' => e = .returned (.agg #[.int .i64 (decodeO x).op, .int .i64 (decodeO x).fr, .int .i64 (decodeO x).tt, .int .i64 (decodeO x).nx]) ∧ Below w.heap.size w w') := by
 obtain ⟨d1, hd1⟩ : ∃ a, x / 128 = a := ⟨_, rfl⟩; obtain ⟨d2, hd2⟩ : ∃ a, d1 / 128 = a := ⟨_, rfl⟩; obtain ⟨d3, hd3⟩ : ∃ a, d2 / 128 = a := ⟨_, rfl⟩; obtain ⟨m1, hm1⟩ : ∃ a, x % 128 = a := ⟨_, rfl⟩; obtain ⟨m2, hm2⟩ : ∃ a, d1 % 128 = a := ⟨_, rfl⟩; obtain ⟨m3, hm3⟩ : ∃ a, d2 % 128 = a := ⟨_, rfl⟩; have Hd := hid (show decodeO x = ⟨d3, m3, m2, m1⟩ by unfold decodeO; rw [hd1, hd2, hd3, hm1, hm2, hm3]); skip
 refine enter_F Tryz.func83 rfl Tryz.ntmps83 (by simp) ?_
 intro s0 hs; have sl0 : s0 0 = .int .i64 x := hs 0 (by simp); clear hs; have HB := hid (OldB.refl [] w)
 refine nr ?_; intros; refine pa (fun _ B2 hB kb2 hb => ?_); have gb2 := HB.out.gB hB; have eb2 := eB hB; clear hB; replace HB := bE HB hb; clear hb; have qb2 := kb2.1; refine lx [2] ?_; clear sl0; intro _ sl0 sl2; refine lr ?_; intros; refine pl ?_; refine cal (unpack_any x d1 m1 _ hx hd1 hm1) ?_; rintro e w' ⟨rfl, rfl⟩; refine ⟨_, rfl, ?_⟩
 refine P5 ?_
 obtain ⟨cb2_0, cb2_1, cb2_2, cb2_3⟩ := cl4 kb2; have zb2 := kb2.2.2; refine pl ?_; refine sto kb2 ?_; clear kb2 cb2_0 cb2_1 cb2_2 cb2_3 zb2; intro _ kb2 hb; clear qb2; replace HB := mO HB hb; clear hb; have qb2 := kb2.1; clear sl0; refine lx [0] ?_; clear sl2; intro _ sl2 sl0; refine lr ?_; intros; refine pl ?_; refine cal (unpack_any d1 d2 m2 _ (by omega) hd2 hm2) ?_; rintro e w' ⟨rfl, rfl⟩; refine ⟨_, rfl, ?_⟩
 refine P5 ?_
 obtain ⟨cb2_0, cb2_1, cb2_2, cb2_3⟩ := cl4 kb2; have zb2 := kb2.2.2; refine pl ?_; refine sto kb2 ?_; clear kb2 cb2_0 cb2_1 cb2_2 cb2_3 zb2; intro _ kb2 hb; clear qb2; replace HB := mO HB hb; clear hb; have qb2 := kb2.1; clear sl0; refine lx [0] ?_; clear sl2; intro _ sl2 sl0; refine lr ?_; intros; refine pl ?_; refine cal (unpack_any d2 d3 m3 _ (by omega) hd3 hm3) ?_; rintro e w' ⟨rfl, rfl⟩; refine ⟨_, rfl, ?_⟩
 refine P4 ?_
 obtain ⟨cb2_0, cb2_1, cb2_2, cb2_3⟩ := cl4 kb2; have zb2 := kb2.2.2; refine pl ?_; refine sto kb2 ?_; clear kb2 cb2_0 cb2_1 cb2_2 cb2_3 zb2; intro _ kb2 hb; clear qb2; replace HB := mO HB hb; clear hb; have qb2 := kb2.1; refine pl ?_; obtain ⟨cb2_0, cb2_1, cb2_2, cb2_3⟩ := cl4 kb2; have zb2 := kb2.2.2; refine pl ?_; refine sto kb2 ?_; clear kb2 cb2_0 cb2_1 cb2_2 cb2_3 zb2; intro _ kb2 hb; clear qb2; replace HB := mO HB hb; clear hb; have qb2 := kb2.1; clear sl0; refine lx [] ?_; clear sl2; intro _ sl2; refine lr ?_; intros; obtain ⟨cb2_0, cb2_1, cb2_2, cb2_3⟩ := cl4 kb2; refine pl ?_; have zb2 := kb2.2.2; refine pl ?_; refine sto kb2 ?_; clear kb2 cb2_0 cb2_1 cb2_2 cb2_3 zb2; intro _ kb2 hb; clear qb2; replace HB := mO HB hb; clear hb; have qb2 := kb2.1; refine lx [] ?_; clear sl2; intro _ sl2; refine ln ?_; intros
 obtain ⟨cb2_0, cb2_1, cb2_2, cb2_3⟩ := cl4 kb2; refine ret_F _ (res_c Tryz.results83 ((getD_F (by decide)).trans sl2) (load_t27 cb2_0 cb2_1 cb2_2 cb2_3)) ?_; exact ⟨by rw [Hd.out], HB.out.toBelow⟩
end

section
open Go.RowKit

theorem passing1_ff (t a : Int) (A T L : Nat) (R : World → Prop) (w : World) (ht : 0 ≤ t ∧ t ≤ 2000000000) (ha : 0 ≤ a ∧ a ≤ 127) (hA : Cells w A [.int .i64 a]) (hT : Cells w T [.int .i64 t]) (hy : YieldAt Fence.wide 0 Tryz.prog L #[.int .i64 (afterT t a)] w (fun e W' => e = .returned (.bool false) ∧ R W')) :
    Calls Tryz.prog 160 #[.func (.yield L) #[] #[], .pointer (some ⟨A, 0, none⟩), .pointer (some ⟨T, 0, none⟩)] w (fun e w' => (∃ v, e = .returned v) ∧ R w') := by
 have w1 : IntKind.i64.wrap (a - t) = a - t := IntWalk.i64_in _ (by omega); have w2 : IntKind.i64.wrap (a - t - 1) = a - t - 1 := IntWalk.i64_in _ (by omega); have hb := i64_and15 (a - t - 1); have w3 : IntKind.i64.wrap (t + 1) = t + 1 := IntWalk.i64_in _ (by omega); have hk := Int.emod_nonneg (a - t - 1) (b := 16) (by decide); have hk2 := Int.emod_lt_of_pos (a - t - 1) (b := 16) (by decide); have w4 : IntKind.i64.wrap (t + 1 + (a - t - 1) % 16) = afterT t a := IntWalk.i64_in _ (by omega); have Hy := hid hy; clear hy; have kA := hA; have kT := hT
 refine enter_F Tryz.func160 rfl Tryz.ntmps160 (by simp) ?_
 intro s0 hs; have sl0 : s0 0 = .func (.yield L) #[] #[] := hs 0 (by simp); have sl1 : s0 1 = .pointer (some ⟨A, 0, none⟩) := hs 1 (by simp); have sl2 : s0 2 = .pointer (some ⟨T, 0, none⟩) := hs 2 (by simp); clear hs; have HB := hid (OldB.refl [] w); have qA := kA.1; have qT := kT.1
 refine nr ?_; intros; have cA_0 := kA.cell 0 rfl; refine pl ?_; have cT_0 := kT.cell 0 rfl
 refine P5 ?_
 clear sl1; refine lx [4] ?_; clear sl0 sl2; intro s1 sl0 sl2 sl4; refine lr ?_; intros
 refine P5 ?_
 clear sl2 sl4; refine lx [5] ?_; clear sl0; intro s2 sl0 sl5; refine ln ?_; intros
 clear cA_0 cT_0; have hc0_0 := hid sl0; refine loop_F (n := 20) (fun kJ sJ wJ => kJ = 0 ∧ sJ 5 = .int .i64 (afterT t a) ∧ sJ 0 = s2 0 ∧ OldB [] w wJ ∧ Hid (YieldAt Fence.wide 0 Tryz.prog L #[.int .i64 (afterT t a)] wJ (fun e W' => e = .returned (.bool false) ∧ R W'))) ⟨rfl, (by first | exact sl5 | (rw [sl5]; go_num) | (rw [sl5]; rfl)), rfl, OldB.refl _ _, Hy⟩ ?_; clear sl5; rintro kJ s3 w4 ⟨rfl, sl5, e0, hb5, hy2⟩; replace sl0 := e0.trans sl0; clear e0; have hoJ := hb5; clear qA qT; revert HB; revert kT; revert kA; refine uO hb5 ?_; clear hb5; intro kA qA kT qT HB; have HoJ := hid hoJ; clear hoJ; have HL6 := HoJ; clear HoJ
 refine zx ?_; intros
 refine region_yield (k := 2) (by kernel_rfl) ?_
 simp only [List.take_succ_cons, List.take_zero, List.drop_succ_cons, List.drop_zero]
 refine P2 ?_; refine lx [15,16] ?_; clear sl0 sl5; intro s7 sl0 sl5 sl15 sl16; refine lsn ?_; clear qA qT; have Hz := hy2.out; refine yield_in (l := L) (d := 17) (v := .int .i64 (afterT t a)) rfl (fun c h => by cases h) rfl ?_ Hz ?_
 · go_simp
 rintro e w8 ⟨rfl, hR2⟩; refine ⟨_, rfl, listF_in _ _ _ (by kernel_rfl) ?_⟩; clear Hz hy2; clear kA kT HL6 HB; have HB := hid (OldB.refl [] w8); clear sl15 sl16; refine lx [17] ?_; clear sl0 sl5; intro s10 sl0 sl5 sl17; refine ln ?_; intros
 refine cond_E sl17 (by decide) ?_ ?_ <;> (clear sl17; intro h17 sl17)
 ·skip
  cases h17
 ·skip
  refine zx ?_; intros
  clear hc0_0; refine norm_F _ (res_none Tryz.results160) ?_; exact ⟨⟨_, rfl⟩, hR2⟩

theorem passing_any (t a : Int) (w : World) :
    Calls Tryz.prog 157 #[.int .i64 t, .int .i64 a] w (fun e w' => ∃ A T, e = .returned (.func (.func 160) #[] #[.pointer (some ⟨A, 0, none⟩), .pointer (some ⟨T, 0, none⟩)]) ∧ Cells w' A [.int .i64 a] ∧ Cells w' T [.int .i64 t] ∧ w.heap.size ≤ A ∧ w.heap.size ≤ T ∧ Below w.heap.size w w') := by
 have hmf := hmf
 refine enter_F Tryz.func157 rfl Tryz.ntmps157 (by simp) ?_
 intro s0 hs; have sl0 : s0 0 = .int .i64 t := hs 0 (by simp); have sl1 : s0 1 = .int .i64 a := hs 1 (by simp); clear hs; have HB := hid (OldB.refl [] w)
 refine nr ?_; intros; refine pa (fun _ B2 hB kb2 hb => ?_); have gb2 := HB.out.gB hB; have eb2 := eB hB; clear hB; replace HB := bE HB hb; clear hb; have qb2 := kb2.1; refine pa (fun _ B3 hB kb3 hb => ?_); have gb3 := HB.out.gB hB; have ob2_b3 := oB qb2 hB; have eb3 := eB hB; clear hB; clear qb2; revert HB; revert kb2; refine uA hb ?_; clear hb; intro kb2 qb2 HB; have qb3 := kb3.1; refine pl ?_; clear sl0 sl1; refine lx [2,3] ?_; intro _ sl2 sl3; refine lr ?_; intros; refine P2 ?_; clear sl2 sl3; refine lx [4] ?_; intro _ sl4; refine ln ?_; intros
 refine ret_F _ (res_t Tryz.results157 ((getD_F (by decide)).trans sl4)) ?_; exact ⟨B3, B2, rfl, kb3, kb2, gb3, gb2, HB.out.toBelow⟩

theorem oafter_any (t a : Int) (w : World) (ht : 0 ≤ t ∧ t ≤ 1999999000) (ha : 0 ≤ a ∧ a ≤ 127) :
    Calls Tryz.prog 147 #[.int .i64 t, .int .i64 a] w (fun e w' => e = .returned (.int .i64 (afterT t a)) ∧ Below w.heap.size w w') := by
 have hmf := hmf; refine enterM_F Tryz.func147 rfl Tryz.ntmps147 (by simp) ?_; intro s0 hs; have sl0 : s0 0 = .int .i64 t := hs 0 (by simp); have sl1 : s0 1 = .int .i64 a := hs 1 (by simp); clear hs; have HB := hid (OldB.refl [] w)
 refine nr ?_; intros; refine pa (fun w1 B4 hB kb4 hb2 => ?_); have gb4 := HB.out.gB hB; have eb4 := eB hB; clear hB; replace HB := bE HB hb2; clear hb2; have qb4 := kb4.1; refine lx [4] ?_; clear sl0 sl1; intro s3 sl0 sl1 sl4; refine lr ?_; intros; refine P2 ?_; refine cal (passing_any t a _) ?_; rintro e w4 ⟨A, T, rfl, kA', kT', gA', gT', hb5⟩
 have gA : w.heap.size ≤ A := by have := HB.out.size; omega
 have gT : w.heap.size ≤ T := by have := HB.out.size; omega
 have ob4_A : B4 < A := by have := gA'; omega
 have ob4_T : B4 < T := by have := gT'; omega
 refine ⟨_, rfl, ?_⟩; clear qb4; revert HB; revert kb4; refine uA hb5 ?_; clear hb5; intro kb4 qb4 HB; have kA := kA'; clear kA'; have qA := kA.1; have kT := kT'; clear kT'; have qT := kT.1; clear sl1; refine lx [8] ?_; clear sl0 sl4; intro s6 sl0 sl4 sl8; refine ln ?_; intros
 obtain ⟨D, hDD⟩ : ∃ d, w4.heap.size = d := ⟨_, rfl⟩
 have d4 : B4 < D := by have := kb4.1; omega
 have dA : A < D := by have := kA.1; omega
 have dT : T < D := by have := kT.1; omega
 have dw : w.heap.size ≤ D := by have := HB.out.size; omega
 refine wp_range_r (α := Int) (enc := fun x : Int => #[.int .i64 x]) (gf := 160) (lb := #[.pointer (some ⟨A, 0, none⟩), .pointer (some ⟨T, 0, none⟩)]) ?hg ?eg (fun _ => rfl) (fun pre W => pre = [] ∧ Below w.heap.size w W ∧ Cells W B4 [.int .i64 0] ∧ Cells W A [.int .i64 a] ∧ Cells W T [.int .i64 t]) (fun pre x W => x = afterT t a ∧ Below w.heap.size w W ∧ Cells W B4 [.int .i64 0] ∧ Cells W A [.int .i64 a] ∧ Cells W T [.int .i64 t]) (fun _ => False) (fun W => Below w.heap.size w W ∧ Cells W B4 [.int .i64 (afterT t a)]) ?hJ ?hD ?h0 ?hiter ?hround ?hdone ?hleave
 case hg => rw [mkA_eval]; go_simp
 case eg => intro args w; rfl
 case hJ =>
  rintro pre Wx r r' ⟨rfl, h1, h2, h3, h4⟩ hLx; rw [hDD] at hLx ⊢; exact ⟨rfl, bel_put h1 (by omega), h2.put (by omega), h3.put (by omega), h4.put (by omega)⟩
 case hD =>
  rintro Wx r r' ⟨h1, h2⟩ hLx; rw [hDD] at hLx ⊢; exact ⟨bel_put h1 (by omega), h2.put (by omega)⟩
 case h0 =>
  intro r; have hb : Below w4.heap.size w4 ((w4.alloc (.deferred (some []))).alloc (.loop r)) := ((Below.refl _ _).alloc (Nat.le_refl _) _).alloc (by simp) _; exact ⟨rfl, HB.out.toBelow.trans (hb.mono HB.out.size), kb4.at hb, kA.at hb, kT.at hb⟩
 case hiter =>
  rintro r r' Wx ⟨-, h1, h2, h3, h4⟩ hLx hy; rw [hDD] at hLx hy ⊢; refine (passing1_ff t a A T (D + 1) (fun W => (Below w.heap.size w W ∧ Cells W B4 [.int .i64 (afterT t a)]) ∧ LoopAt W D r') Wx (by omega) ha h3 h4 ?_).mono ?_
  · refine yield_mono (hy [] (afterT t a) Wx ⟨rfl, h1, h2, h3, h4⟩ hLx) ?_
    rintro e W' (⟨rfl, ⟨h5, _⟩, _⟩ | ⟨rfl, h5, h6⟩)
    · cases h5
    · exact ⟨rfl, h5, h6⟩
  · rintro e W' ⟨hv, h5, h6⟩
    exact ⟨hv, .inr ⟨h5, h6⟩⟩
 case hround =>
  rintro pre x Wx r ⟨rfl, h1, h2, h3, h4⟩ hLx; rw [hDD] at hLx ⊢
  simp only [zip1, foldl1, mkA_tmps, mkA_fold]
  refine region_FI (ρ := some (D + 1)) ?_ ?_
  · rfl
  refine pl ?_; refine lsn ?_; refine ⟨hLx, fun r' => ?_⟩; replace h1 := bel_put (o := .loop r') h1 (show w.heap.size ≤ D + 1 by omega); replace h2 := h2.put (o := .loop r') (show B4 ≠ D + 1 by omega); replace hLx := hLx.put (r' := r')
  generalize Wx.putObj (D + 1) (.loop r') = wb at *
  refine wpIn_abs (fun s2 z' => ?_); have t4 := slg z' sl4; have t5 := gu 5 z'; clear z' sl0 sl4 sl8; refine wpIn_block ?_; refine wpIn_seq ?_; refine region_FI (ρ := some (D + 1)) ?_ ?_
  · rfl
  have c0 := h2.cell 0 rfl; have q4 := h2.1; have z4 := h2.2.2; refine P2 ?_; refine listF_absw ?_; intro w9 hw'; have k4' := cells_of hw' (Cells.set (i := 0) h2); have ho : OldB [B4] wb w9 := oldset hw'; clear hw'; refine lsn ?_; refine wpIn_ret ?_; refine ⟨.inr ⟨rfl, ?_, k4'⟩, hLx.oldB ho (by simp; omega)⟩; exact h1.trans (ho.lowN h1.size (by simp; omega))
 case hdone =>
  rintro xs Wx _ h9; exact h9.elim
 case hleave =>
  rintro Wx ⟨h1, h2⟩ hDx; rw [hDD] at hDx ⊢; have c0 := (h2.put (o := .deferred none) (show B4 ≠ D by omega)).cell 0 rfl; refine retMark_F (.int .i64 (afterT t a)) hDx ?_ ⟨rfl, bel_put h1 (by omega)⟩; exact res_c Tryz.results147 ((getD_F (by decide)).trans sl4) (by simp [go_sem, c0])

theorem XW10b {A : Prop} (e : A := by
 focus (intro wq hwq; obtain ⟨hcq, hfq⟩ := bcell hwq; go_simp; have hQ := callQ (oafter_any t o.fr _ (by omega) (by omega)) hwq; exact hQ)) : A := e
theorem XW10c {A : Prop} (e : A := by
 focus (intro wq hwq; obtain ⟨hcq, hfq⟩ := bcell hwq; go_simp; have hQ := callQ (oafter_any (afterT t o.fr) o.tt _ (by have := afterT_gt t o.fr; omega) (by omega)) hwq; exact hQ)) : A := e
theorem XW10d {A B1 : Prop} (hX1 : B1) (e : B1 → A := by exact ret_F _ (res_tt Tryz.results117 ((getD_F (by decide)).trans sl6) ((getD_F (by decide)).trans sl7))) : A := e hX1
theorem owhen_any (o : Ord) (t : Int) (neg : Bool) (w : World) (ht : 0 ≤ t ∧ t ≤ 1000000000) (ho : (0 ≤ o.op ∧ o.op ≤ 7) ∧ (0 ≤ o.fr ∧ o.fr ≤ 127) ∧ (0 ≤ o.tt ∧ o.tt ≤ 127) ∧ (0 ≤ o.nx ∧ o.nx ≤ 127)) :
    Calls Tryz.prog 117 #[.agg #[.int .i64 o.op, .int .i64 o.fr, .int .i64 o.tt, .int .i64 o.nx], .int .i64 t, .bool neg] w (fun e w' => e = .returned (.tuple #[.int .i64 (nextO o neg), .int .i64 (untilO o t neg)]) ∧ Below w.heap.size w w') := by
 obtain ⟨⟨o1, o2⟩, ⟨o3, o4⟩, ⟨o5, o6⟩, o7, o8⟩ := ho; have b1 := t1O_bd o t; have b2 := t2O_bd o t; have b3 := timeO_gt o t; have b4 := nextO_bd neg ⟨⟨o1, o2⟩, ⟨o3, o4⟩, ⟨o5, o6⟩, o7, o8⟩; have w12 : IntKind.i64.wrap (afterT (afterT t o.fr) o.tt + 12) = afterT (afterT t o.fr) o.tt + 12 := IntWalk.i64_in _ (by have := afterT_gt t o.fr; have := afterT_gt (afterT t o.fr) o.tt; omega); have Hu := hid (show untilO o t neg = afterT (timeO o t) (nextO o neg) from rfl)
 refine enter_F Tryz.func117 rfl Tryz.ntmps117 (by simp) ?_
 intro s0 hs; have sl0 : s0 0 = .agg #[.int .i64 o.op, .int .i64 o.fr, .int .i64 o.tt, .int .i64 o.nx] := hs 0 (by simp); have sl1 : s0 1 = .int .i64 t := hs 1 (by simp); have sl2 : s0 2 = .bool neg := hs 2 (by simp); clear hs; have HB := hid (OldB.refl [] w)
 refine nr ?_; intros; refine pa (fun w1 B3 hB kb3 hb => ?_); have gb3 := HB.out.gB hB; have eb3 := eB hB; clear hB; replace HB := bE HB hb; clear hb; have qb3 := kb3.1; refine P2 ?_; clear sl0; refine lx [3] ?_; clear sl1 sl2; intro _ sl1 sl2 sl3; refine lr ?_; intros; refine pl ?_; have cb3 := clx kb3; refine P2 ?_; refine lx [6] ?_; clear sl1 sl2 sl3; intro _ sl1 sl2 sl3 sl6; refine lr ?_; intros; refine P2 ?_; refine lx [11] ?_; clear sl1 sl2 sl3 sl6; intro _ sl1 sl2 sl3 sl6 sl11; refine lr ?_; intros; refine P2 ?_; refine lx [12] ?_; clear sl1 sl2 sl3 sl6 sl11; intro _ sl1 sl2 sl3 sl6 sl11 sl12; refine ln ?_; intros
 refine cond_E sl12 (by decide) ?_ ?_ <;> (clear sl12; intro h12 sl12)
 ·skip
  have g5 : o.op = 5 := by simpa using h12
  refine nr ?_; intros; refine pl ?_; clear sl2 sl11 sl12; refine lx [20] ?_; clear sl1 sl3 sl6; intro _ sl1 sl3 sl6 sl20; refine ln ?_; intros
  refine cond_E sl20 (by decide) ?_ ?_ <;> (clear sl20; intro h20 sl20)
  ·skip
   have H20 := hid h20; clear h20
   refine nr ?_; intros
   refine P3 ?_
   clear sl6 sl20; refine lx [6] ?_; clear sl1 sl3; intro _ sl1 sl3 sl6; refine lr ?_; intros
   refine P3 ?_
   refine cal (oafter_any t o.fr _ (by omega) (by omega)) ?_; rintro e _ ⟨rfl, hb⟩; refine ⟨_, rfl, ?_⟩; clear cb3; clear qb3; revert HB; revert kb3; refine uA hb ?_; clear hb; intro kb3 qb3 HB; refine pl ?_; clear sl1 sl3; refine lx [1] ?_; clear sl6; intro _ sl6 sl1; refine lr ?_; intros
   have hnx : nextO o neg = o.tt := by unfold nextO; rw [if_pos ⟨g5, H20.out⟩]
   have htm : timeO o t = afterT t o.fr := by unfold timeO t2O t1O; simp [g5]
   rw [← htm] at sl1; rw [← hnx] at sl6; clear hnx htm
   refine P3 ?_
   refine cal (oafter_any (timeO o t) (nextO o neg) _ (by omega) (by omega)) ?_; rintro e w12 ⟨rfl, hb⟩; refine ⟨_, rfl, ?_⟩; clear qb3; revert HB; revert kb3; refine uA hb ?_; clear hb; intro kb3 qb3 HB; refine P2 ?_; clear sl6 sl1; refine lx [6,7] ?_; intro _ sl6 sl7; refine ln ?_; intros
   refine XW10d ?_; exact ⟨by rw [Hu.out], HB.out.toBelow⟩
  ·skip
   have H20 := hid h20; clear h20
   refine nr ?_; intros
   refine P3 ?_
   refine cal (oafter_any t o.fr _ (by omega) (by omega)) ?_; rintro e _ ⟨rfl, hb⟩; refine ⟨_, rfl, ?_⟩; clear cb3; clear qb3; revert HB; revert kb3; refine uA hb ?_; clear hb; intro kb3 qb3 HB; refine pl ?_; clear sl1 sl3 sl20; refine lx [1] ?_; clear sl6; intro _ sl6 sl1; refine lr ?_; intros
   have hnx : nextO o neg = o.nx := by unfold nextO; rw [if_neg (by simp [H20.out])]
   have htm : timeO o t = afterT t o.fr := by unfold timeO t2O t1O; simp [g5]
   rw [← htm] at sl1; rw [← hnx] at sl6; clear hnx htm
   refine P3 ?_
   refine cal (oafter_any (timeO o t) (nextO o neg) _ (by omega) (by omega)) ?_; rintro e _ ⟨rfl, hb⟩; refine ⟨_, rfl, ?_⟩; clear qb3; revert HB; revert kb3; refine uA hb ?_; clear hb; intro kb3 qb3 HB; refine P2 ?_; clear sl6 sl1; refine lx [6,7] ?_; intro _ sl6 sl7; refine ln ?_; intros
   refine XW10d ?_; exact ⟨by rw [Hu.out], HB.out.toBelow⟩
 ·skip
  have g5 : ¬ o.op = 5 := by simpa using h12
  refine nr ?_; intros; refine P2 ?_; clear sl2 sl12; refine lx [14] ?_; clear sl1 sl3 sl6 sl11; intro _ sl1 sl3 sl6 sl11 sl14; refine ln ?_; intros
  refine cond_E sl14 (by decide) ?_ ?_ <;> (clear sl14; intro h14 sl14)
  ·skip
   have g7 : o.op = 7 := by simpa using h14
   refine nr ?_; intros
   refine P3 ?_
   refine cal (oafter_any t o.fr _ (by omega) (by omega)) ?_; rintro e _ ⟨rfl, hb⟩; refine ⟨_, rfl, ?_⟩; clear cb3; clear qb3; revert HB; revert kb3; refine uA hb ?_; clear hb; intro kb3 qb3 HB; refine pl ?_; clear sl1 sl3 sl11 sl14; refine lx [1] ?_; clear sl6; intro _ sl6 sl1; refine lr ?_; intros
   have hnx : nextO o neg = o.nx := by unfold nextO; rw [if_neg (by simp [g5])]
   have htm : timeO o t = afterT t o.fr := by unfold timeO t2O t1O; simp [g7]
   rw [← htm] at sl1; rw [← hnx] at sl6; clear hnx htm
   refine P3 ?_
   refine cal (oafter_any (timeO o t) (nextO o neg) _ (by omega) (by omega)) ?_; rintro e _ ⟨rfl, hb⟩; refine ⟨_, rfl, ?_⟩; clear qb3; revert HB; revert kb3; refine uA hb ?_; clear hb; intro kb3 qb3 HB; refine P2 ?_; clear sl6 sl1; refine lx [6,7] ?_; intro _ sl6 sl7; refine ln ?_; intros
   refine XW10d ?_; exact ⟨by rw [Hu.out], HB.out.toBelow⟩
  ·skip
   have g7 : ¬ o.op = 7 := by simpa using h14
   refine nr ?_; intros; refine P2 ?_; clear sl14; refine lx [16] ?_; clear sl1 sl3 sl6 sl11; intro _ sl1 sl3 sl6 sl11 sl16; refine ln ?_; intros
   refine cond_E sl16 (by decide) ?_ ?_ <;> (clear sl16; intro h16 sl16)
   ·skip
    have g6 : o.op = 6 := by simpa using h16
    refine nr ?_; intros
    refine P3 ?_
    refine cal (oafter_any t o.tt _ (by omega) (by omega)) ?_; rintro e _ ⟨rfl, hb⟩; refine ⟨_, rfl, ?_⟩; clear cb3; clear qb3; revert HB; revert kb3; refine uA hb ?_; clear hb; intro kb3 qb3 HB; refine pl ?_; clear sl1 sl3 sl11 sl16; refine lx [1] ?_; clear sl6; intro _ sl6 sl1; refine lr ?_; intros
    have hnx : nextO o neg = o.nx := by unfold nextO; rw [if_neg (by simp [g5])]
    have htm : timeO o t = afterT t o.tt := by unfold timeO t2O t1O; simp [g6]
    rw [← htm] at sl1; rw [← hnx] at sl6; clear hnx htm
    refine P3 ?_
    refine cal (oafter_any (timeO o t) (nextO o neg) _ (by omega) (by omega)) ?_; rintro e _ ⟨rfl, hb⟩; refine ⟨_, rfl, ?_⟩; clear qb3; revert HB; revert kb3; refine uA hb ?_; clear hb; intro kb3 qb3 HB; refine P2 ?_; clear sl6 sl1; refine lx [6,7] ?_; intro _ sl6 sl7; refine ln ?_; intros
    refine XW10d ?_; exact ⟨by rw [Hu.out], HB.out.toBelow⟩
   ·skip
    have g6 : ¬ o.op = 6 := by simpa using h16
    refine nr ?_; intros; refine P2 ?_; clear sl11 sl16; refine lx [18] ?_; clear sl1 sl3 sl6; intro _ sl1 sl3 sl6 sl18; refine ln ?_; intros
    refine cond_E sl18 (by decide) ?_ ?_ <;> (clear sl18; intro h18 sl18)
    ·skip
     have g4 : o.op = 4 := by simpa using h18
     refine zx ?_; intros
     refine regionQ_F (Below w1.heap.size w1) (by kernel_rfl) (by kernel_rfl) (Below.refl _ _).drew ?_
     iterate 3 refine lq ?_
     refine listQ_step (v := ?_) rfl ?_ ?_; rotate_left
     · exact XW10b
     refine lq ?_; refine lq ?_; refine listQ_step (v := ?_) rfl ?_ ?_; rotate_left
     · exact XW10c
     refine lq ?_; refine lq ?_; refine listQ_nil ?_; intro _ hb; clear cb3; clear qb3; revert HB; revert kb3; refine uA hb ?_; clear hb; intro kb3 qb3 HB
     refine zx ?_; intros
     refine wp_abs (fun _ z' => ?_); replace sl1 := gu 1 z'; replace sl3 := slg z' sl3; replace sl6 := slg z' sl6; clear z' sl18; refine region_F ?_; refine P2 ?_; have cb3 := clx kb3; refine pl ?_; refine cal (oafter_any (afterT (afterT t o.fr) o.tt + 12) o.tt _ (by have := afterT_gt t o.fr; have := afterT_gt (afterT t o.fr) o.tt; omega) (by omega)) ?_; rintro e _ ⟨rfl, hb⟩; refine ⟨_, rfl, ?_⟩; clear cb3; clear qb3; revert HB; revert kb3; refine uA hb ?_; clear hb; intro kb3 qb3 HB; refine pl ?_; clear sl1 sl3; refine lx [1] ?_; clear sl6; intro _ sl6 sl1; refine lr ?_; intros
     have hnx : nextO o neg = o.nx := by unfold nextO; rw [if_neg (by simp [g5])]
     have htm : timeO o t = afterT (afterT (afterT t o.fr) o.tt + 12) o.tt := by unfold timeO t2O t1O; simp [g4]
     rw [← htm] at sl1; rw [← hnx] at sl6; clear hnx htm
     refine P3 ?_
     refine cal (oafter_any (timeO o t) (nextO o neg) _ (by omega) (by omega)) ?_; rintro e _ ⟨rfl, hb⟩; refine ⟨_, rfl, ?_⟩; clear qb3; revert HB; revert kb3; refine uA hb ?_; clear hb; intro kb3 qb3 HB; refine P2 ?_; clear sl6 sl1; refine lx [6,7] ?_; intro _ sl6 sl7; refine ln ?_; intros
     refine XW10d ?_; exact ⟨by rw [Hu.out], HB.out.toBelow⟩
    ·skip
     have g4 : ¬ o.op = 4 := by simpa using h18
     refine zx ?_; intros
     refine regionQ_F (Below w1.heap.size w1) (by kernel_rfl) (by kernel_rfl) (Below.refl _ _).drew ?_
     iterate 3 refine lq ?_
     refine listQ_step (v := ?_) rfl ?_ ?_; rotate_left
     · exact XW10b
     refine lq ?_; refine lq ?_; refine listQ_step (v := ?_) rfl ?_ ?_; rotate_left
     · exact XW10c
     refine lq ?_; refine listQ_nil ?_; intro _ hb; clear cb3; clear qb3; revert HB; revert kb3; refine uA hb ?_; clear hb; intro kb3 qb3 HB
     refine zx ?_; intros
     refine wp_abs (fun _ z' => ?_); replace sl1 := gu 1 z'; replace sl6 := slg z' sl6; clear z' sl3 sl18; refine region_F ?_
     have hnx : nextO o neg = o.nx := by unfold nextO; rw [if_neg (by simp [g5])]
     have htm : timeO o t = afterT (afterT t o.fr) o.tt := by unfold timeO t2O t1O; simp [g4, g5, g6, g7]
     rw [← htm] at sl1; rw [← hnx] at sl6; clear hnx htm
     refine P3 ?_
     refine cal (oafter_any (timeO o t) (nextO o neg) _ (by omega) (by omega)) ?_; rintro e _ ⟨rfl, hb⟩; refine ⟨_, rfl, ?_⟩; clear qb3; revert HB; revert kb3; refine uA hb ?_; clear hb; intro kb3 qb3 HB; refine P2 ?_; clear sl6 sl1; refine lx [6,7] ?_; intro _ sl6 sl7; refine ln ?_; intros
     refine XW10d ?_; exact ⟨by rw [Hu.out], HB.out.toBelow⟩
end


end Go.Proofs.YtleknidlgmmgbaaGreat
