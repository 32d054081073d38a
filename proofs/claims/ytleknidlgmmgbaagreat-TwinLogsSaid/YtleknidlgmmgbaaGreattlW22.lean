/- The program: Grow, Concat. -/
import Derived.Test.YtleknidlgmmgbaaGreattlW18
import Derived.Lib.AppendZeros
set_option linter.all false
namespace Go.Proofs.YtleknidlgmmgbaaGreat

open Go.RowKit


section
variable {α : Type} {f : α → List Value} {m : Nat} {T : TypeId}
theorem own_zeros (w : World) (n : Nat) (z : Value) (hz : z.cells.size = m) (hn : n ≤ maxLen) : Own f m T w.heap.size (w.drew.alloc (.cells (Builtin.zeroCells z.cells n ++ Builtin.zeroCells z.cells (grownCap w n 0 T - n)) T)) (.slice (some ⟨w.heap.size, 0, none⟩) 0 (grownCap w n 0 T)) ([] : List α) := by
  have hge := grownCap_ge w n 0 T; refine ⟨by simp, .inr ⟨w.heap.size, _, _, rfl, Nat.le_refl _, heap_alloc_new w.drew _, Nat.zero_le _, grownCap_le_maxLen w n 0 T hn, ?_, by simp⟩⟩
  simp only [Array.size_append, size_zeroCells, hz, ← Nat.add_mul]
  congr 1
  omega
end
theorem Below.drewAlloc (w : World) (o : Obj) : Below w.heap.size w (w.drew.alloc o) := ⟨rfl, rfl, rfl, by simp, fun k hk => heap_alloc_old w.drew _ hk⟩

set_option maxRecDepth 100000 in
set_option maxHeartbeats 4000000 in
theorem growInt_any (n : Nat) (w : World) (hn : n * 8 ≤ 281474976710656) :
    Calls Tryz.prog 127 #[.slice none 0 0, .int .i64 (n : Int)] w (fun e w' => ∃ v, e = .returned v ∧ Own int1 1 3 w.heap.size w' v ([] : List Int) ∧ Below w.heap.size w w') := by
 obtain ⟨i0, hi0, hz0, hy0, hx0⟩ := info_parts info_int
 have wz : IntKind.i64.wrap 0 = 0 := by decide
 have wn : IntKind.i64.wrap (n : Int) = n := IntWalk.i64_in _ (by omega)
 have wn2 : IntKind.i64.wrap ((n : Int) - IntKind.i64.wrap 0) = n := by rw [wz, Int.sub_zero, wn]
 have hzz : (Value.int .i64 0).cells.size = 1 := by rfl
 refine enter_F Tryz.func127 rfl Tryz.ntmps127 (by simp) ?_
 intro s0 hs; have Z0 : s0 0 = .slice none 0 0 := hs 0 (by simp); have Z1 : s0 1 = .int .i64 (n : Int) := hs 1 (by simp); clear hs; have HB := hid (OldB.refl [] w)
 refine nr ?_; intros; refine pl ?_; refine lx [] ?_; clear Z0 Z1; intro _ Z0 Z1; refine lr ?_; intros; refine P2 ?_; refine lx [6] ?_; clear Z0 Z1; intro _ Z0 Z1 Z6; refine ln ?_; intros
 refine cond_f ?_
 refine nr ?_; intros
 refine P8 ?_
 clear Z1 Z6; refine lx [1] ?_; clear Z0; intro _ Z0 Z1; refine lr ?_; intros; refine P2 ?_; refine lx [16] ?_; clear Z0 Z1; intro _ Z0 Z1 Z16; refine ln ?_; intros
 refine cond_E Z16 (by decide) ?_ ?_ <;> (clear Z16; intro h16 Z16)
 ·skip
  have hn0 : 0 < n := by have h := h16; simp at h; omega
  refine nr ?_; intros
  refine P5 ?_
  obtain ⟨BZ, hBZ⟩ : ∃ b, b = w.heap.size := ⟨_, rfl⟩; obtain ⟨cz, hcz⟩ : ∃ c, c = grownCap w n 0 3 := ⟨_, rfl⟩; have hrz := Lib.run_append_nil_zeros (P := Tryz.prog) w 22 3 22 3 i0 _ .i64 .i64 Tryz.underlying22 Tryz.underlying3 hi0 hz0 n hn0 (by rw [hy0]; decide) (by omega) (by rw [hx0]; omega); rw [← hcz, ← hBZ] at hrz; have gBZ := HB.out.gB hBZ; refine listF_step rfl (fun K' hK => ?_); refine opF_of_wp (d := 22) rfl (by decide) (fun K1 Q hK1 => Lib.wp_append_run _ (.tmp 20) (.tmp 21) 22 3 rfl (.slice none 0 0) (.int .i64 (n : Int)) (by rw [mkA_eval]; go_simp) (by rw [mkA_eval]; go_simp) _ _ hrz (hK1 _ _ (hK _ _ ?_))); have hO22 : Own int1 1 3 w.heap.size _ _ ([] : List Int) := own_zeros (f := int1) (m := 1) w n (Value.int .i64 0) hzz (by unfold maxLen; omega); have hb := Below.drewAlloc w (.cells (Builtin.zeroCells (Value.int .i64 0).cells n ++ Builtin.zeroCells (Value.int .i64 0).cells (grownCap w n 0 3 - n)) 3)
  rw [← hcz, ← hBZ] at hO22; clear hK1 hK K' hrz Q
  (try rw [← hcz] at hb)
  clear hcz hBZ; refine listF_absw ?_; intro _ hw'; rw [← hw'] at hO22 hb; clear hw'; replace HB := bE HB hb; clear hb
  refine P4 ?_
  clear Z0 Z1 Z16; refine lx [0] ?_; intro _ Z0; refine lr ?_; intros; refine P2 ?_; clear Z0; refine lx [4] ?_; intro _ Z4; refine ln ?_; intros
  refine ret_F _ (res_t Tryz.results127 ((getD_F (by decide)).trans Z4)) ?_; exact ⟨_, rfl, Own.base hO22 gBZ, HB.out.toBelow⟩
 ·skip
  refine nr ?_; intros; refine P2 ?_; clear Z0 Z1 Z16; refine lx [4] ?_; intro _ Z4; refine ln ?_; intros
  refine ret_F _ (res_t Tryz.results127 ((getD_F (by decide)).trans Z4)) ?_; exact ⟨_, rfl, Own.nil _ _ _ _ _, HB.out.toBelow⟩

end Go.Proofs.YtleknidlgmmgbaaGreat
