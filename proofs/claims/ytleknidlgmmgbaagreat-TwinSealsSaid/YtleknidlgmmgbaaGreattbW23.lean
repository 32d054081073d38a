/- The program: Concat. -/
import Derived.Test.YtleknidlgmmgbaaGreattbW22
import Derived.Test.YtleknidlgmmgbaaGreattbCX
set_option linter.all false
namespace Go.Proofs.YtleknidlgmmgbaaGreat

open Go.RowKit


structure SlI where
  a : Option Addr
  c : Nat
  l : List Int
abbrev SlI.cs (x : SlI) : List Value := [.slice x.a x.l.length x.c]
abbrev RdSls := Rd SlI.cs 1
theorem RdSls.ne {w : World} {a : Option Addr} {l : List SlI} (h : RdSls w a l) {k : Nat} (hk : k < l.length) :
    ∃ b off, a = some ⟨b, off, none⟩ ∧ b < w.heap.size ∧ w.cell? ⟨b, off + k, none⟩ = some (.slice l[k].a l[k].l.length l[k].c) := by
  obtain ⟨b, off, ha, hb, hc⟩ := Rd.ne h hk; exact ⟨b, off, ha, hb, by simpa using hc 0 _ rfl⟩
def catL (xs : List SlI) (i : Nat) : List Int := (xs.take i).flatMap (·.l)
theorem catL_succ {xs : List SlI} {i : Nat} (h : i < xs.length) : catL xs (i + 1) = catL xs i ++ xs[i].l := by
  unfold catL; rw [List.take_succ_eq_append_getElem h, List.flatMap_append]; simp
theorem catL_le (xs : List SlI) (i : Nat) : (catL xs i).length ≤ (catL xs xs.length).length := by
  unfold catL; rw [List.take_length]
  conv => rhs; rw [← List.take_append_drop i xs]
  rw [List.flatMap_append, List.length_append]; omega

set_option maxRecDepth 100000 in
set_option maxHeartbeats 4000000 in
theorem concat_any (a : Option Addr) (c : Nat) (xs : List SlI) (w : World) (hR : RdSls w a xs) (hE : ∀ x ∈ xs, RdInts w x.a x.l) (hl : (catL xs xs.length).length ≤ 1000) (hxl : xs.length ≤ 1000) :
    Calls Tryz.prog 104 #[.slice a xs.length c] w (fun e w' => ∃ v, e = .returned v ∧ Own int1 1 3 w.heap.size w' v (catL xs xs.length) ∧ Below w.heap.size w w') := by
 have HR := hid hR; have HE := hid hE; clear hR hE; obtain ⟨i0, hi0, hz0, hy0, hx0⟩ := info_parts info_int
 refine enter_F Tryz.func104 rfl Tryz.ntmps104 (by simp) ?_
 intro s0 hs; have sl0 : s0 0 = .slice a xs.length c := hs 0 (by simp); clear hs; have HB := hid (OldB.refl [] w)
 repeat ((fail_if_success refine stp ?_); go_step)
 refine region_F ?_; refine pl ?_; refine lsa fun s1 z' => ?_; replace sl0 := slg z' sl0; clear z'; refine lsn ?_
 repeat ((fail_if_success refine stp ?_); go_step)
 refine region_F ?_; refine pl ?_; refine lsa fun s2 z' => ?_; replace sl0 := slg z' sl0; have sl3 := gu 3 z'; clear z'; refine lsn ?_
 repeat ((fail_if_success refine stp ?_); go_step)
 refine region_F ?_
 iterate 3 refine pl ?_
 refine lsa fun s3 z' => ?_; replace sl0 := slg z' sl0; replace sl3 := slg z' sl3; have sl9 := gu 9 z'; have sl10 := gu 10 z'; have sl11 := gu 11 z'; clear z'; refine lsn ?_
 repeat ((fail_if_success refine stp ?_); go_step)
 have hc0_0 := hid sl0; have hc0_9 := hid sl9; have hc0_10 := hid sl10; refine loop_F (n := 36) (fun kJ sJ wJ => ∃ (i : Nat), kJ = xs.length - i ∧ sJ 3 = .int .i64 ((catL xs i).length : Int) ∧ sJ 11 = .int .i64 (i : Int) ∧ sJ 0 = s3 0 ∧ sJ 9 = s3 9 ∧ sJ 10 = s3 10 ∧ OldB [] w wJ ∧ i ≤ xs.length) ⟨0, rfl, (by rw [sl3]; rfl), (by first | exact sl11 | (rw [sl11]; go_num) | (rw [sl11]; rfl)), rfl, rfl, rfl, OldB.refl _ _, Nat.zero_le _⟩ ?_; clear sl3 sl11; rintro kJ s4 w5 ⟨i, rfl, sl3, sl11, e0, e9, e10, hb6, hil⟩; replace sl0 := e0.trans sl0; clear e0; replace sl9 := e9.trans sl9; clear e9; replace sl10 := e10.trans sl10; clear e10; have hoJ := hb6; replace HB := mO HB hb6; clear hb6; have HoJ := hid hoJ; clear hoJ; have HL7 := HoJ; clear HoJ
 repeat ((fail_if_success refine stp ?_); go_step)
 refine region_F ?_; refine pl ?_; refine lsa fun s8 z' => ?_; replace sl0 := slg z' sl0; replace sl3 := slg z' sl3; replace sl9 := slg z' sl9; replace sl10 := slg z' sl10; replace sl11 := slg z' sl11; have sl12 := gu 12 z'; clear z'; refine lsn ?_
 repeat ((fail_if_success refine stp ?_); go_step)
 refine cond_E sl12 (by decide) ?_ ?_ <;> (clear sl12; intro h12 sl12)
 ·skip
  have hi : i < xs.length := by simpa using h12
  have hii : (i : Int) < xs.length := by omega
  obtain ⟨bx, ox, hax, hbx, cx⟩ := RdSls.ne (Rd.oldB HR.out HB.out (by simp)) hi; subst hax; obtain ⟨x, hx⟩ : ∃ x, xs[i] = x := ⟨_, rfl⟩; rw [hx] at cx; have hcs := catL_succ hi; have hcl := catL_le xs (i + 1); rw [hcs, hx, List.length_append] at hcl; have Hcs := hid (show (catL xs (i + 1)).length = (catL xs i).length + x.l.length by rw [hcs, hx, List.length_append]); have wsm : IntKind.i64.wrap (((catL xs i).length : Int) + (x.l.length : Int)) = ((catL xs i).length : Int) + x.l.length := IntWalk.i64_in _ (by omega); clear hx hcs
  repeat ((fail_if_success refine stp ?_); go_step)
  refine region_F ?_
  iterate 3 refine pl ?_
  refine lsa fun s9 z' => ?_; replace sl0 := slg z' sl0; replace sl3 := slg z' sl3; have sl5 := gu 5 z'; replace sl9 := slg z' sl9; replace sl10 := slg z' sl10; replace sl11 := slg z' sl11; clear z' sl12; refine lsn ?_
  repeat ((fail_if_success refine stp ?_); go_step)
  refine region_F ?_
  iterate 5 refine pl ?_
  refine lsa fun s10 z' => ?_; replace sl0 := slg z' sl0; replace sl3 := gu 3 z'; replace sl9 := slg z' sl9; replace sl10 := slg z' sl10; replace sl11 := slg z' sl11; clear z' sl5; refine lsn ?_
  repeat ((fail_if_success refine stp ?_); go_step)
  refine region_F ?_; refine pl ?_; refine pl ?_; refine lsa fun s11 z' => ?_; replace sl0 := slg z' sl0; replace sl3 := slg z' sl3; replace sl9 := slg z' sl9; replace sl10 := slg z' sl10; replace sl11 := slg z' sl11; have sl20 := gu 20 z'; clear z'; refine lsn ?_
  repeat ((fail_if_success refine stp ?_); go_step)
  refine cond_E sl20 (by decide) ?_ ?_ <;> (clear sl20; intro h20 sl20)
  ·skip
   simp at h20; omega
  ·skip
   repeat ((fail_if_success refine stp ?_); go_step)
   refine region_F ?_; refine pl ?_; refine pl ?_; refine lsa fun s12 z' => ?_; replace sl0 := slg z' sl0; replace sl3 := slg z' sl3; replace sl9 := slg z' sl9; replace sl10 := slg z' sl10; replace sl11 := gu 11 z'; clear z' sl20; refine lsn ?_
   repeat ((fail_if_success refine stp ?_); go_step)
   refine ⟨_, _, rfl, ?_, i + 1, rfl, (by rw [sl3, Hcs.out]; first | rfl | (rw [Int.natCast_add]; rw [wsm]) | (rw [Int.natCast_add])), (rL sl11), (sl0.trans hc0_0.out.symm), (sl9.trans hc0_9.out.symm), (sl10.trans hc0_10.out.symm), HL7.out, by omega⟩
   omega
 ·skip
  have hi : i = xs.length := by have h := h12; simp at h; omega
  subst hi
  repeat ((fail_if_success refine stp ?_); go_step)
  clear HL7; clear hc0_0 hc0_9 hc0_10; refine region_F ?_; refine pl ?_; refine cal (growInt_any (catL xs xs.length).length _ (by omega)) ?_; rintro e w13 ⟨v24, rfl, hO24, hb14⟩; replace hO24 := Own.base (base' := w.heap.size) hO24 HB.out.size; refine ⟨_, rfl, ?_⟩; replace HB := bE HB hb14; clear hb14; refine pl ?_; refine lsa fun s15 z' => ?_; replace sl0 := slg z' sl0; have sl6 := gu 6 z'; clear z' sl3 sl9 sl10 sl11 sl12; refine lsn ?_
  repeat ((fail_if_success refine stp ?_); go_step)
  refine region_F ?_
  iterate 3 refine pl ?_
  refine lsa fun s16 z' => ?_; replace sl6 := slg z' sl6; have sl25 := gu 25 z'; have sl26 := gu 26 z'; have sl27 := gu 27 z'; clear z' sl0; refine lsn ?_
  repeat ((fail_if_success refine stp ?_); go_step)
  have hc1_25 := hid sl25; have hc1_26 := hid sl26; refine loop_F (n := 36) (fun kJ sJ wJ => ∃ (i : Nat) (v6 : Value), kJ = xs.length - i ∧ sJ 6 = v6 ∧ sJ 27 = .int .i64 (i : Int) ∧ sJ 25 = s16 25 ∧ sJ 26 = s16 26 ∧ OldB [] w wJ ∧ i ≤ xs.length ∧ Own int1 1 3 w.heap.size wJ v6 (catL xs i)) ⟨0, v24, rfl, (by first | exact sl6 | (rw [sl6]; go_num) | (rw [sl6]; rfl)), (by first | exact sl27 | (rw [sl27]; go_num) | (rw [sl27]; rfl)), rfl, rfl, HB.out, Nat.zero_le _, hO24⟩ ?_; clear sl6 sl27 HB; rintro kJ s17 w18 ⟨i, v6, rfl, sl6, sl27, e25, e26, HB', hil, hO6⟩; replace sl25 := e25.trans sl25; clear e25; replace sl26 := e26.trans sl26; clear e26; have HB := hid HB'; clear HB'
  repeat ((fail_if_success refine stp ?_); go_step)
  refine region_F ?_; refine pl ?_; refine lsa fun s19 z' => ?_; replace sl6 := slg z' sl6; replace sl25 := slg z' sl25; replace sl26 := slg z' sl26; replace sl27 := slg z' sl27; have sl28 := gu 28 z'; clear z'; refine lsn ?_
  repeat ((fail_if_success refine stp ?_); go_step)
  refine cond_E sl28 (by decide) ?_ ?_ <;> (clear sl28; intro h28 sl28)
  ·skip
   have hi : i < xs.length := by simpa using h28
   have hii : (i : Int) < xs.length := by omega
   obtain ⟨bx, ox, hax, hbx, cx⟩ := RdSls.ne (Rd.oldB HR.out HB.out (by simp)) hi; subst hax; obtain ⟨x, hx⟩ : ∃ x, xs[i] = x := ⟨_, rfl⟩; rw [hx] at cx; have hcs := catL_succ hi; have hcl := catL_le xs (i + 1); rw [hcs, hx, List.length_append] at hcl; have Hcs := hid (show catL xs i ++ x.l = catL xs (i + 1) by rw [hcs, hx]); have Hxr := hid (show RdInts w x.a x.l from HE.out x (by rw [← hx]; exact List.getElem_mem hi)); clear hx hcs
   repeat ((fail_if_success refine stp ?_); go_step)
   refine region_F ?_
   iterate 3 refine pl ?_
   refine lsa fun s20 z' => ?_; replace sl6 := slg z' sl6; have sl8 := gu 8 z'; replace sl25 := slg z' sl25; replace sl26 := slg z' sl26; replace sl27 := slg z' sl27; clear z' sl28; refine lsn ?_
   repeat ((fail_if_success refine stp ?_); go_step)
   refine region_F ?_; refine pl ?_; refine pl ?_; refine listF_step rfl (fun K' hK => ?_); refine opF_app (d := 33) rfl (by decide) (.tmp 31) (.tmp 32) _ rfl 3 i0 _ 8 Tryz.underlying22 hi0 hz0 hy0 hx0 rfl (by decide) (fun _ => rfl) int_one w.heap.size _ (catL xs i) x.l x.a x.c (by go_simp) (by go_simp) hO6 (Rd.oldB Hxr.out HB.out (by simp)) (by unfold maxLen; omega) (by omega) HB.out.size (fun v33 w21 hO' hG hV => hK _ _ ?_); clear hK K'; replace HB := hid (HB.out.grown hG (fun k hk => .inl (by have := (World.ownsRow.lt hO6 k hk).1; omega))); rw [Hcs.out] at hO'; clear hO6 hG hV; refine pl ?_; refine lsa fun s23 z' => ?_; replace sl6 := gu 6 z'; replace sl25 := slg z' sl25; replace sl26 := slg z' sl26; replace sl27 := slg z' sl27; clear z' sl8; refine lsn ?_
   repeat ((fail_if_success refine stp ?_); go_step)
   refine region_F ?_; refine pl ?_; refine pl ?_; refine lsa fun s24 z' => ?_; replace sl6 := slg z' sl6; replace sl25 := slg z' sl25; replace sl26 := slg z' sl26; replace sl27 := gu 27 z'; clear z'; refine lsn ?_
   repeat ((fail_if_success refine stp ?_); go_step)
   refine ⟨_, _, rfl, ?_, i + 1, v33, rfl, (rL sl6), (rL sl27), (sl25.trans hc1_25.out.symm), (sl26.trans hc1_26.out.symm), HB.out, by omega, hO'⟩
   omega
  ·skip
   have hi : i = xs.length := by have h := h28; simp at h; omega
   subst hi
   repeat ((fail_if_success refine stp ?_); go_step)
   clear hc1_25 hc1_26; refine region_F ?_; refine pl ?_; refine pl ?_; refine lsa fun s25 z' => ?_; have sl2 := gu 2 z'; clear z' sl6 sl25 sl26 sl27 sl28; refine lsn ?_
   repeat ((fail_if_success refine stp ?_); go_step)
   refine ret_F _ (res_t Tryz.results104 ((getD_F (by decide)).trans sl2)) ?_; exact ⟨_, rfl, hO6, HB.out.toBelow⟩

end Go.Proofs.YtleknidlgmmgbaaGreat
