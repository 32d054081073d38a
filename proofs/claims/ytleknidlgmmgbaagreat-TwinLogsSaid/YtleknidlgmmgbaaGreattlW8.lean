/- The reference: ends. -/
import Derived.Test.YtleknidlgmmgbaaGreattlW7
set_option linter.all false
namespace Go.Proofs.YtleknidlgmmgbaaGreat

open Go.RowKit


def endsU (every : Nat) (i : Nat) : List Int := (List.range i).map fun j => (((j + 1) * every : Nat) : Int)
theorem endsU_len {every i : Nat} : (endsU every i).length = i := by simp [endsU]
theorem endsU_succ {every i : Nat} : endsU every (i + 1) = endsU every i ++ [(((i + 1) * every : Nat) : Int)] := by simp [endsU, List.range_succ]
def endsL (every most : Nat) : List Int := (List.range (cntN every most)).map fun i => (endN every most i : Int)
theorem endsL_eq {every most i : Nat} (he : 1 ≤ every) (h1 : i * every < most) (h2 : most ≤ (i + 1) * every) : endsL every most = endsU every i ++ [(most : Int)] := by
  have hc : cntN every most = i + 1 := by
    unfold cntN; rw [Nat.add_mul, Nat.one_mul] at h2; refine Nat.div_eq_of_lt_le ?_ ?_
    · rw [Nat.add_mul, Nat.one_mul]; omega
    · rw [Nat.add_mul, Nat.add_mul, Nat.one_mul]; omega
  unfold endsL endsU; rw [hc, List.range_succ, List.map_append]
  congr 1
  · refine List.map_congr_left (fun j hj => ?_)
    have hj' := List.mem_range.1 hj; have : (j + 1) * every ≤ i * every := Nat.mul_le_mul_right _ (by omega); unfold endN; rw [Nat.min_eq_right (by omega)]
  · unfold endN
    simp only [List.map_cons, List.map_nil]
    rw [Nat.min_eq_left h2]
theorem endsL_zero {every : Nat} (he : 1 ≤ every) : endsL every 0 = [] := by
  unfold endsL cntN; rw [Nat.div_eq_of_lt (by omega)]; rfl

set_option maxRecDepth 100000 in
set_option maxHeartbeats 8000000 in
theorem rends_any (every most : Nat) (w : World) (he : 1 ≤ every ∧ every ≤ 1000) (hm : most ≤ 1000) :
    Calls Tryz.prog 79 #[.int .i64 (every : Int), .int .i64 (most : Int)] w (fun e w' => ∃ v, e = .returned v ∧ Own int1 1 3 w.heap.size w' v (endsL every most) ∧ Below w.heap.size w w') := by
 obtain ⟨i0, hi0, hz0, hy0, hx0⟩ := info_parts info_int
 refine enter_F Tryz.func79 rfl Tryz.ntmps79 (by simp) ?_
 intro s0 hs; have Z0 : s0 0 = .int .i64 (every : Int) := hs 0 (by simp); have Z1 : s0 1 = .int .i64 (most : Int) := hs 1 (by simp); clear hs; have HB := hid (OldB.refl [] w)
 refine nr ?_; intros; refine pl ?_; refine lx [] ?_; clear Z0 Z1; intro _ Z0 Z1; refine lr ?_; intros; refine pl ?_; refine lx [5] ?_; clear Z0 Z1; intro _ Z0 Z1 Z5; refine lr ?_; intros; refine P2 ?_; refine lx [6] ?_; clear Z0 Z1 Z5; intro s3 Z0 Z1 Z5 Z6; refine ln ?_; intros
 have hc0_0 := hid Z0; have hc0_1 := hid Z1; refine loop_F (n := 25) (fun kJ sJ wJ => ∃ (i : Nat) (a5 : Option Addr) (c5 : Nat), kJ = most - i ∧ sJ 5 = .slice a5 (endsU every i).length c5 ∧ sJ 6 = .int .i64 (((i + 1) * every : Nat) : Int) ∧ sJ 0 = s3 0 ∧ sJ 1 = s3 1 ∧ OldB [] w wJ ∧ i ≤ most ∧ (Hid (i = 0 ∨ i * every < most)) ∧ Own int1 1 3 w.heap.size wJ (Value.slice a5 (endsU every i).length c5) (endsU every i)) ⟨0, none, 0, rfl, (by first | exact Z5 | (rw [Z5]; go_num) | (rw [Z5]; rfl)), (by rw [Z6]; congr 1; simp), rfl, rfl, OldB.refl _ _, Nat.zero_le _, hid (.inl rfl), Own.nil _ _ _ _ _⟩ ?_; clear Z5 Z6; rintro kJ s4 w5 ⟨i, a5, c5, rfl, Z5, Z6, e0, e1, hb, hil, Hie, hO5⟩; rw [← e0] at Z0; clear e0; rw [← e1] at Z1; clear e1; have hoJ := hb; replace HB := mO HB hb; clear hb; have HoJ := hid hoJ; clear hoJ; have HL7 := HoJ; clear HoJ
 refine nr ?_; intros
 refine P3 ?_
 refine lx [10] ?_; clear Z0 Z1 Z5 Z6; intro _ Z0 Z1 Z5 Z6 Z10; refine ln ?_; intros
 refine cond_E Z10 (by decide) ?_ ?_ <;> (clear Z10; intro h10 Z10)
 ·skip
  obtain ⟨e1, he1⟩ : ∃ e : Nat, (i + 1) * every = e := ⟨_, rfl⟩; rw [he1] at Z6
  have hlt : e1 < most := by have h : (((i + 1) * every : Nat) : Int) < (most : Int) := (by simpa using h10); have h2 := Int.ofNat_lt.1 h; rw [he1] at h2; exact h2
  have hi1 : i + 1 ≤ e1 := by rw [← he1]; exact Nat.le_mul_of_pos_right _ (by omega)
  have He1 := hid he1; clear he1 h10; have we : IntKind.i64.wrap ((e1 : Int) + every) = e1 + every := IntWalk.i64_in _ (by omega)
  refine nr ?_; intros; refine P2 ?_; refine pas (fun _ B16 hB Y16 hb => ?_); have gb16 := HB.out.gB hB; have lHL7_b16 := HL7.out.gB hB
  have nhO5_b16 : ∀ g, (Value.slice a5 (endsU every i).length c5).ownBlock = some g → g < B16 := fun g hg => by have := (World.ownsRow.lt hO5 g hg).2; omega
  have eb16 := eB hB; clear hB; replace hO5 := Own.at hO5 hb; revert HB HL7; refine zA hb ?_; clear hb; intro HB HL7; have Q16 := Y16.1
  have ab16 : (Value.slice a5 (endsU every i).length c5).ownBlock ≠ some B16 := fun e => by have n0 := (World.ownsRow.lt hO5 B16 e).1; have n9 := nhO5_b16 B16 e; omega
  have hzz := HB.out.size; refine listF_step rfl (fun K' hK => ?_); refine opF_app (d := 17) rfl (by decide) (.tmp 14) (.tmp 16) _ rfl 3 i0 _ 8 Tryz.underlying22 hi0 hz0 hy0 hx0 rfl (by decide) (fun _ => rfl) int_one w.heap.size (Value.slice a5 (endsU every i).length c5) (endsU every i) [(e1 : Int)] (some ⟨B16, 0, none⟩) 1 (by go_simp) (by go_simp) hO5 (Cells.rd (f := int1) (m := 1) (l := [(e1 : Int)]) (fun _ => rfl) Y16) (by unfold maxLen; have := endsU_len (every := every) (i := i); simp; omega) (by have := endsU_len (every := every) (i := i); simp; omega) (by omega) (fun v17 w11 hO' hG hV => hK _ _ ?_); clear hK K' hzz; clear Q16; replace Y16 := Y16.grown hG ab16; clear ab16; replace HL7 := hid (HL7.out.grown hG (fun k hk => .inl (by have := (World.ownsRow.lt hO5 k hk).1; omega))); replace HB := hid (HB.out.grown hG (fun k hk => .inl (by have := (World.ownsRow.lt hO5 k hk).1; omega))); clear hO5; have hO5 := hO'; clear hO' hG hV
  clear nhO5_b16; have Q16 := Y16.1; rw [show endsU every i ++ [(e1 : Int)] = endsU every (i + 1) by rw [endsU_succ, He1.out]] at hO5; obtain ⟨a5', c5', rfl, hr9, hn9⟩ := Own.slice (f := int1) (m := 1) (fun _ => rfl) hO5; clear hr9 hn9; refine pl ?_; clear Z5 Z10; refine lx [5] ?_; clear Z0 Z1 Z6; intro _ Z0 Z1 Z6 Z5; refine lr ?_; intros
  refine P4 ?_
  clear Z6; refine lx [6] ?_; clear Z0 Z1 Z5; intro _ Z0 Z1 Z5 Z6; refine ln ?_; intros
  refine ⟨_, _, rfl, ?_, i + 1, a5', c5', rfl, (rL Z5), (by rw [Z6, show (i + 1 + 1) * every = e1 + every by rw [Nat.succ_mul, He1.out]]; first | rfl | (rw [we]; rfl)), sh, sh, HL7.out, by omega, hid (.inr (by rw [He1.out]; exact hlt)), hO5⟩
  omega
 ·skip
  have H10 := hid (show most ≤ (i + 1) * every by have h : ¬ (((i + 1) * every : Nat) : Int) < (most : Int) := (by simpa using h10); exact Nat.le_of_not_lt (fun g => h (Int.ofNat_lt.2 g))); clear h10
  refine zx ?_; intros
  clear HL7; clear hc0_0 hc0_1; refine region_F ?_; refine P2 ?_; clear Z0 Z6 Z10; refine lx [19] ?_; clear Z1 Z5; intro _ Z1 Z5 Z19; refine ln ?_; intros
  refine cond_E Z19 (by decide) ?_ ?_ <;> (clear Z19; intro h19 Z19)
  ·skip
   have h19' : 0 < most := by have h := h19; simp at h; exact h
   refine nr ?_; intros; refine P2 ?_; refine pas (fun _ B22 hB Y22 hb => ?_); have gb22 := HB.out.gB hB
   have nhO5_b22 : ∀ g, (Value.slice a5 (endsU every i).length c5).ownBlock = some g → g < B22 := fun g hg => by have := (World.ownsRow.lt hO5 g hg).2; omega
   have eb22 := eB hB; clear hB; replace hO5 := Own.at hO5 hb; replace HB := bE HB hb; clear hb; have Q22 := Y22.1
   have ab22 : (Value.slice a5 (endsU every i).length c5).ownBlock ≠ some B22 := fun e => by have n0 := (World.ownsRow.lt hO5 B22 e).1; have n9 := nhO5_b22 B22 e; omega
   have hzz := HB.out.size; refine listF_step rfl (fun K' hK => ?_); refine opF_app (d := 23) rfl (by decide) (.tmp 20) (.tmp 22) _ rfl 3 i0 _ 8 Tryz.underlying22 hi0 hz0 hy0 hx0 rfl (by decide) (fun _ => rfl) int_one w.heap.size (Value.slice a5 (endsU every i).length c5) (endsU every i) [(most : Int)] (some ⟨B22, 0, none⟩) 1 (by go_simp) (by go_simp) hO5 (Cells.rd (f := int1) (m := 1) (l := [(most : Int)]) (fun _ => rfl) Y22) (by unfold maxLen; have := endsU_len (every := every) (i := i); simp; omega) (by have := endsU_len (every := every) (i := i); simp; omega) (by omega) (fun v23 w17 hO' hG hV => hK _ _ ?_); clear hK K' hzz; clear Q22; replace Y22 := Y22.grown hG ab22; clear ab22; replace HB := hid (HB.out.grown hG (fun k hk => .inl (by have := (World.ownsRow.lt hO5 k hk).1; omega))); clear hO5; have hO5 := hO'; clear hO' hG hV; clear nhO5_b22; have Q22 := Y22.1; have Hl := hid (endsL_eq he.1 (by rcases Hie.out with h | h; (rw [h]; omega); exact h) H10.out)
   rw [← Hl.out] at hO5; refine pl ?_; clear Z5 Z1 Z19; refine lx [5] ?_; intro _ Z5; refine lr ?_; intros; refine P2 ?_; clear Z5; refine lx [4] ?_; intro _ Z4; refine ln ?_; intros
   refine ret_F _ (res_t Tryz.results79 ((getD_F (by decide)).trans Z4)) ?_; exact ⟨_, rfl, hO5, HB.out.toBelow⟩
  ·skip
   have Hl := hid (show endsU every i = endsL every most by have h9 : most = 0 := (by have h := h19; simp at h; omega); have hi00 : i = 0 := (by rcases Hie.out with h | h; exact h; omega); rw [hi00, h9, endsL_zero he.1]; rfl)
   refine nr ?_; intros; refine P2 ?_; clear Z1 Z5 Z19; refine lx [4] ?_; intro _ Z4; refine ln ?_; intros
   refine ret_F _ (res_t Tryz.results79 ((getD_F (by decide)).trans Z4)) ?_; exact ⟨_, rfl, (by rw [← Hl.out]; exact hO5), HB.out.toBelow⟩

end Go.Proofs.YtleknidlgmmgbaaGreat
