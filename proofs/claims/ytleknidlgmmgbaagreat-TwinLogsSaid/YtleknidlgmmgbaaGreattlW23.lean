/- The program: Concat. -/
import Derived.Test.YtleknidlgmmgbaaGreattlW22
set_option linter.all false
namespace Go.Proofs.YtleknidlgmmgbaaGreat

open Go.RowKit


structure SlI where
  a : Option Addr
  c : Nat
  l : List Int
abbrev SlI.cs (x : SlI) : List Value := [.slice x.a x.l.length x.c]
abbrev RdSls := Rd SlI.cs 1
theorem RdSls.ne {w : World} {a : Option Addr} {l : List SlI} (h : RdSls w a l) {k : Nat} (hk : k < l.length) :
    ∃ b off, a = some ⟨b, off, none⟩ ∧ b < w.heap.size ∧ w.cell? ⟨b, off + k, none⟩ = some (.slice l[k].a l[k].l.length l[k].c) := by
  obtain ⟨b, off, ha, hb, hc⟩ := Rd.ne h hk; exact ⟨b, off, ha, hb, by simpa using hc 0 _ rfl⟩
def catL (xs : List SlI) (i : Nat) : List Int := (xs.take i).flatMap (·.l)
theorem catL_succ {xs : List SlI} {i : Nat} (h : i < xs.length) : catL xs (i + 1) = catL xs i ++ xs[i].l := by
  unfold catL; rw [List.take_succ_eq_append_getElem h, List.flatMap_append]; simp
theorem catL_le (xs : List SlI) (i : Nat) : (catL xs i).length ≤ (catL xs xs.length).length := by
  unfold catL; rw [List.take_length]
  conv => rhs; rw [← List.take_append_drop i xs]
  rw [List.flatMap_append, List.length_append]; omega

set_option maxRecDepth 100000 in
set_option maxHeartbeats 4000000 in
theorem concat_any (a : Option Addr) (c : Nat) (xs : List SlI) (w : World) (hR : RdSls w a xs) (hE : ∀ x ∈ xs, RdInts w x.a x.l) (hl : (catL xs xs.length).length ≤ 1000) (hxl : xs.length ≤ 1000) :
    Calls Tryz.prog 104 #[.slice a xs.length c] w (fun e w' => ∃ v, e = .returned v ∧ Own int1 1 3 w.heap.size w' v (catL xs xs.length) ∧ Below w.heap.size w w') := by
 have HR := hid hR; have HE := hid hE; clear hR hE; obtain ⟨i0, hi0, hz0, hy0, hx0⟩ := info_parts info_int
 refine enter_F Tryz.func104 rfl Tryz.ntmps104 (by simp) ?_
 intro s0 hs; have Z0 : s0 0 = .slice a xs.length c := hs 0 (by simp); clear hs; have HB := hid (OldB.refl [] w)
 refine nr ?_; intros; refine pl ?_; refine lx [] ?_; clear Z0; intro _ Z0; refine lr ?_; intros; refine pl ?_; refine lx [3] ?_; clear Z0; intro _ Z0 Z3; refine lr ?_; intros
 refine P3 ?_
 refine lx [9,10,11] ?_; clear Z0 Z3; intro s3 Z0 Z3 Z9 Z10 Z11; refine ln ?_; intros
 have hc0_0 := hid Z0; have hc0_9 := hid Z9; have hc0_10 := hid Z10; refine loop_F (n := 36) (fun kJ sJ wJ => ∃ (i : Nat), kJ = xs.length - i ∧ sJ 3 = .int .i64 ((catL xs i).length : Int) ∧ sJ 11 = .int .i64 (i : Int) ∧ sJ 0 = s3 0 ∧ sJ 9 = s3 9 ∧ sJ 10 = s3 10 ∧ OldB [] w wJ ∧ i ≤ xs.length) ⟨0, rfl, (by rw [Z3]; rfl), (by first | exact Z11 | (rw [Z11]; go_num) | (rw [Z11]; rfl)), rfl, rfl, rfl, OldB.refl _ _, Nat.zero_le _⟩ ?_; clear Z3 Z11; rintro kJ s4 w5 ⟨i, rfl, Z3, Z11, e0, e9, e10, hb, hil⟩; rw [← e0] at Z0; clear e0; rw [← e9] at Z9; clear e9; rw [← e10] at Z10; clear e10; have hoJ := hb; replace HB := mO HB hb; clear hb; have HoJ := hid hoJ; clear hoJ; have HL7 := HoJ; clear HoJ
 refine nr ?_; intros; refine pl ?_; refine lx [12] ?_; clear Z0 Z3 Z9 Z10 Z11; intro _ Z0 Z3 Z9 Z10 Z11 Z12; refine ln ?_; intros
 refine cond_E Z12 (by decide) ?_ ?_ <;> (clear Z12; intro h12 Z12)
 ·skip
  have hi : i < xs.length := by simpa using h12
  have hii : (i : Int) < xs.length := by omega
  obtain ⟨bx, ox, hax, hbx, cx⟩ := RdSls.ne (Rd.oldB HR.out HB.out (by simp)) hi; subst hax; obtain ⟨x, hx⟩ : ∃ x, xs[i] = x := ⟨_, rfl⟩; rw [hx] at cx; have hcs := catL_succ hi; have hcl := catL_le xs (i + 1); rw [hcs, hx, List.length_append] at hcl; have Hcs := hid (show (catL xs (i + 1)).length = (catL xs i).length + x.l.length by rw [hcs, hx, List.length_append]); have wsm : IntKind.i64.wrap (((catL xs i).length : Int) + (x.l.length : Int)) = ((catL xs i).length : Int) + x.l.length := IntWalk.i64_in _ (by omega); clear hx hcs
  refine nr ?_; intros
  refine P3 ?_
  clear Z12; refine lx [5] ?_; clear Z0 Z3 Z9 Z10 Z11; intro _ Z0 Z3 Z9 Z10 Z11 Z5; refine lr ?_; intros
  refine P5 ?_
  clear Z3 Z5; refine lx [3] ?_; clear Z0 Z9 Z10 Z11; intro _ Z0 Z9 Z10 Z11 Z3; refine lr ?_; intros; refine P2 ?_; refine lx [20] ?_; clear Z0 Z3 Z9 Z10 Z11; intro _ Z0 Z3 Z9 Z10 Z11 Z20; refine ln ?_; intros
  refine cond_E Z20 (by decide) ?_ ?_ <;> (clear Z20; intro h20 Z20)
  ·skip
   simp at h20; omega
  ·skip
   refine nr ?_; intros; refine P2 ?_; clear Z11 Z20; refine lx [11] ?_; clear Z0 Z3 Z9 Z10; intro _ Z0 Z3 Z9 Z10 Z11; refine ln ?_; intros
   refine ⟨_, _, rfl, ?_, i + 1, rfl, (by rw [Z3, Hcs.out]; first | rfl | (rw [Int.natCast_add]; rw [wsm]) | (rw [Int.natCast_add])), (rL Z11), sh, sh, sh, HL7.out, by omega⟩
   omega
 ·skip
  have hi : i = xs.length := by have h := h12; simp at h; omega
  subst hi
  refine zx ?_; intros
  clear HL7; clear hc0_0 hc0_9 hc0_10; refine region_F ?_; refine pl ?_; refine cal (growInt_any (catL xs xs.length).length _ (by omega)) ?_; rintro e _ ⟨v24, rfl, hO24, hb⟩; replace hO24 := Own.base (base' := w.heap.size) hO24 HB.out.size; refine ⟨_, rfl, ?_⟩; replace HB := bE HB hb; clear hb; refine pl ?_; clear Z3 Z9 Z10 Z11 Z12; refine lx [6] ?_; clear Z0; intro _ Z0 Z6; refine lr ?_; intros
  refine P3 ?_
  clear Z0; refine lx [25,26,27] ?_; clear Z6; intro s16 Z6 Z25 Z26 Z27; refine ln ?_; intros
  have hc1_25 := hid Z25; have hc1_26 := hid Z26; refine loop_F (n := 36) (fun kJ sJ wJ => ∃ (i : Nat) (v6 : Value), kJ = xs.length - i ∧ sJ 6 = v6 ∧ sJ 27 = .int .i64 (i : Int) ∧ sJ 25 = s16 25 ∧ sJ 26 = s16 26 ∧ OldB [] w wJ ∧ i ≤ xs.length ∧ Own int1 1 3 w.heap.size wJ v6 (catL xs i)) ⟨0, v24, rfl, (by first | exact Z6 | (rw [Z6]; go_num) | (rw [Z6]; rfl)), (by first | exact Z27 | (rw [Z27]; go_num) | (rw [Z27]; rfl)), rfl, rfl, HB.out, Nat.zero_le _, hO24⟩ ?_; clear Z6 Z27 HB; rintro kJ s17 w18 ⟨i, v6, rfl, Z6, Z27, e25, e26, HB', hil, hO6⟩; rw [← e25] at Z25; clear e25; rw [← e26] at Z26; clear e26; have HB := hid HB'; clear HB'
  refine nr ?_; intros; refine pl ?_; refine lx [28] ?_; clear Z6 Z25 Z26 Z27; intro _ Z6 Z25 Z26 Z27 Z28; refine ln ?_; intros
  refine cond_E Z28 (by decide) ?_ ?_ <;> (clear Z28; intro h28 Z28)
  ·skip
   have hi : i < xs.length := by simpa using h28
   have hii : (i : Int) < xs.length := by omega
   obtain ⟨bx, ox, hax, hbx, cx⟩ := RdSls.ne (Rd.oldB HR.out HB.out (by simp)) hi; subst hax; obtain ⟨x, hx⟩ : ∃ x, xs[i] = x := ⟨_, rfl⟩; rw [hx] at cx; have hcs := catL_succ hi; have hcl := catL_le xs (i + 1); rw [hcs, hx, List.length_append] at hcl; have Hcs := hid (show catL xs i ++ x.l = catL xs (i + 1) by rw [hcs, hx]); have Hxr := hid (show RdInts w x.a x.l from HE.out x (by rw [← hx]; exact List.getElem_mem hi)); clear hx hcs
   refine nr ?_; intros
   refine P3 ?_
   clear Z28; refine lx [8] ?_; clear Z6 Z25 Z26 Z27; intro _ Z6 Z25 Z26 Z27 Z8; refine lr ?_; intros; refine P2 ?_; refine listF_step rfl (fun K' hK => ?_); refine opF_app (d := 33) rfl (by decide) (.tmp 31) (.tmp 32) _ rfl 3 i0 _ 8 Tryz.underlying22 hi0 hz0 hy0 hx0 rfl (by decide) (fun _ => rfl) int_one w.heap.size _ (catL xs i) x.l x.a x.c (by go_simp) (by go_simp) hO6 (Rd.oldB Hxr.out HB.out (by simp)) (by unfold maxLen; omega) (by omega) HB.out.size (fun v33 w21 hO' hG hV => hK _ _ ?_); clear hK K'; replace HB := hid (HB.out.grown hG (fun k hk => .inl (by have := (World.ownsRow.lt hO6 k hk).1; omega))); rw [Hcs.out] at hO'; clear hO6 hG hV; refine pl ?_; clear Z6 Z8; refine lx [6] ?_; clear Z25 Z26 Z27; intro _ Z25 Z26 Z27 Z6; refine lr ?_; intros; refine P2 ?_; clear Z27; refine lx [27] ?_; clear Z6 Z25 Z26; intro _ Z6 Z25 Z26 Z27; refine ln ?_; intros
   refine ⟨_, _, rfl, ?_, i + 1, v33, rfl, (rL Z6), (rL Z27), sh, sh, HB.out, by omega, hO'⟩
   omega
  ·skip
   have hi : i = xs.length := by have h := h28; simp at h; omega
   subst hi
   refine zx ?_; intros
   clear hc1_25 hc1_26; refine region_F ?_; refine P2 ?_; clear Z6 Z25 Z26 Z27 Z28; refine lx [2] ?_; intro _ Z2; refine ln ?_; intros
   refine ret_F _ (res_t Tryz.results104 ((getD_F (by decide)).trans Z2)) ?_; exact ⟨_, rfl, hO6, HB.out.toBelow⟩

end Go.Proofs.YtleknidlgmmgbaaGreat
