/- slices.SortFunc's family off the shelf. -/
import Derived.Test.YtleknidlgmmgbaaGreatteW28
import Derived.Test.YtleknidlgmmgbaaGreatteG11
import Derived.Shelf.SlSortCmp.WholeK
import Derived.Test.YtleknidlgmmgbaaGreatteCZ
set_option linter.all false
set_option maxRecDepth 100000
set_option maxHeartbeats 1000000
namespace Go.Proofs.YtleknidlgmmgbaaGreat

section
open Go.RowKit


abbrev Unt.cs (x : Unt) : List Value := [.int .i64 x.mach, .string x.unit]
abbrev RdUn := Rd Unt.cs 2
theorem info_unt : (Tryz.prog.info? 69).map (fun i => (i.zero, i.size, i.bytes)) = some (some (.agg #[.int .i64 0, .string ByteArray.empty]), 2, 24) := by kernel_rfl
theorem unt_one (x : Unt) : ∀ u ∈ Unt.cs x, u.oneCell' = true := by intro u hu; simp [Unt.cs] at hu; rcases hu with h | h <;> subst h <;> rfl
theorem RdEn.ne {w : World} {a : Option Addr} {l : List Ent} (h : RdEn w a l) {k : Nat} (hk : k < l.length) :
    ∃ b off, a = some ⟨b, off, none⟩ ∧ b < w.heap.size ∧ w.cell? ⟨b, off + k * 4, none⟩ = some (.int .i64 l[k].num) ∧ w.cell? ⟨b, off + k * 4 + 1, none⟩ = some (.int .i64 l[k].mach) ∧ w.cell? ⟨b, off + k * 4 + 2, none⟩ = some (.int .i64 l[k].day) ∧ w.cell? ⟨b, off + k * 4 + 3, none⟩ = some (.string l[k].unit) := by
  obtain ⟨b, off, ha, hb, hc⟩ := Rd.ne h hk; exact ⟨b, off, ha, hb, by simpa using hc 0 _ rfl, hc 1 _ rfl, hc 2 _ rfl, hc 3 _ rfl⟩
theorem RdUn.ne {w : World} {a : Option Addr} {l : List Unt} (h : RdUn w a l) {k : Nat} (hk : k < l.length) :
    ∃ b off, a = some ⟨b, off, none⟩ ∧ b < w.heap.size ∧ w.cell? ⟨b, off + k * 2, none⟩ = some (.int .i64 l[k].mach) ∧ w.cell? ⟨b, off + k * 2 + 1, none⟩ = some (.string l[k].unit) := by
  obtain ⟨b, off, ha, hb, hc⟩ := Rd.ne h hk; exact ⟨b, off, ha, hb, by simpa using hc 0 _ rfl, hc 1 _ rfl⟩

theorem cloneEnt_none (c : Nat) (l : List Ent) (w : World) (hl : l.length ≤ 1000) (hR : RdEn w none l) :
    Calls Tryz.prog 91 #[.slice none l.length c] w (fun e w' => ∃ v, e = .returned v ∧ Own Ent.cs 4 65 w.heap.size w' v l ∧ Below w.heap.size w w') := by
 obtain ⟨i0, hi0, hz0, hz1, hz2⟩ := info_parts info_ent; have HR := hid hR; clear hR
 have hnil : ∀ w, (binOp .eql 36 (.slice none l.length c) (.slice none 0 0)).run Tryz.prog w = .ok (.bool true) w := fun w => Lib.run_eql_slice_nil w _ _ _ _ _ _ _ Tryz.underlying36
 refine enter_F Tryz.func91 rfl Tryz.ntmps91 (by simp) ?_
 intro s0 hs; have sl0 : s0 0 = .slice none l.length c := hs 0 (by simp); clear hs; have HB := hid (OldB.refl [] w)
 refine nr ?_; intros; refine pl ?_; refine lx [] ?_; clear sl0; intro _ sl0; refine lr ?_; intros; refine P2 ?_; refine lx [4] ?_; clear sl0; intro _ sl0 sl4; refine ln ?_; intros
 refine cond_t ?_
 refine nr ?_; intros; refine pl ?_; clear sl0 sl4; refine lx [2] ?_; intro _ sl2; refine ln ?_; intros
 refine ret_F _ (res_t Tryz.results91 ((getD_F (by decide)).trans sl2)) ?_
 have hl0 : l = [] := by rcases HR.out with h | ⟨b, o, h, _⟩; exact h; cases h
 exact ⟨_, rfl, by rw [hl0]; exact Own.nil _ _ _ _ _, HB.out.toBelow⟩

theorem cloneEnt_some (p : Addr) (c : Nat) (l : List Ent) (w : World) (hl : l.length ≤ 1000) (hR : RdEn w (some p) l) :
    Calls Tryz.prog 91 #[.slice (some p) l.length c] w (fun e w' => ∃ v, e = .returned v ∧ Own Ent.cs 4 65 w.heap.size w' v l ∧ Below w.heap.size w w') := by
 obtain ⟨i0, hi0, hz0, hz1, hz2⟩ := info_parts info_ent; have HR := hid hR; clear hR
 have hnil : ∀ w, (binOp .eql 36 (.slice (some p) l.length c) (.slice none 0 0)).run Tryz.prog w = .ok (.bool false) w := fun w => Lib.run_eql_slice_nil w _ _ _ _ _ _ _ Tryz.underlying36
 refine enter_F Tryz.func91 rfl Tryz.ntmps91 (by simp) ?_
 intro s0 hs; have sl0 : s0 0 = .slice (some p) l.length c := hs 0 (by simp); clear hs; have HB := hid (OldB.refl [] w)
 refine nr ?_; intros; refine pl ?_; refine lx [] ?_; clear sl0; intro _ sl0; refine lr ?_; intros; refine P2 ?_; refine lx [4] ?_; clear sl0; intro _ sl0 sl4; refine ln ?_; intros
 refine cond_f ?_
 refine nr ?_; intros; refine listF_step rfl (fun K' hK => ?_); unfold opF; go_simp; refine hK _ _ ?_; clear hK K'; refine listF_absw ?_; intro w3 hw'
 have hO5 : Own Ent.cs 4 65 w.heap.size w3 (.slice (some ⟨w.heap.size, 0, none⟩) 0 0) [] := by rw [hw']; exact Own.lit (l := ([] : List Ent)) (Nat.le_refl _) (by unfold maxLen; simp) rfl (fun _ => rfl)
 have hb : Below w.heap.size w w3 := by rw [hw']; exact below_alloc1 _ _
 clear hw'; replace HB := bE HB hb; clear hb; refine pl ?_; refine listF_step rfl (fun K' hK => ?_); have hzz := HB.out.size; refine opF_app (d := 7) rfl (by decide) (.tmp 5) (.tmp 6) _ rfl 65 i0 _ 40 Tryz.underlying36 hi0 hz0 hz1 hz2 rfl (by decide) (fun _ => rfl) ent_one w.heap.size _ [] l (some p) c (by go_simp) (by go_simp) hO5 (Rd.oldB HR.out HB.out (by simp)) (by unfold maxLen; simp; omega) (by simp; omega) (by omega) (fun v7 w5 hO7 hG7 hV7 => hK _ _ ?_); clear hK K'; replace HB := hid (HB.out.grown hG7 (fun k hk => .inl (by simp [Value.ownBlock] at hk; omega))); have HO7 := hid hO7; clear hO5 hG7 hV7 hzz hO7; refine pl ?_; clear sl0 sl4; refine lx [2] ?_; intro _ sl2; refine ln ?_; intros
 refine ret_F _ (res_t Tryz.results91 ((getD_F (by decide)).trans sl2)) ?_; exact ⟨_, rfl, HO7.out, HB.out.toBelow⟩

theorem cloneEnt_any (a : Option Addr) (c : Nat) (l : List Ent) (w : World) (hl : l.length ≤ 1000) (hR : RdEn w a l) :
    Calls Tryz.prog 91 #[.slice a l.length c] w fun e w' => ∃ v, e = .returned v ∧ Own Ent.cs 4 65 w.heap.size w' v l ∧ Below w.heap.size w w' := by
  cases a with
  | none => exact cloneEnt_none c l w hl hR
  | some p => exact cloneEnt_some p c l w hl hR

theorem cloneUnt_none (c : Nat) (l : List Unt) (w : World) (hl : l.length ≤ 1000) (hR : RdUn w none l) :
    Calls Tryz.prog 96 #[.slice none l.length c] w (fun e w' => ∃ v, e = .returned v ∧ Own Unt.cs 2 69 w.heap.size w' v l ∧ Below w.heap.size w w') := by
 obtain ⟨i0, hi0, hz0, hz1, hz2⟩ := info_parts info_unt; have HR := hid hR; clear hR
 have hnil : ∀ w, (binOp .eql 40 (.slice none l.length c) (.slice none 0 0)).run Tryz.prog w = .ok (.bool true) w := fun w => Lib.run_eql_slice_nil w _ _ _ _ _ _ _ Tryz.underlying40
 refine enter_F Tryz.func96 rfl Tryz.ntmps96 (by simp) ?_
 intro s0 hs; have sl0 : s0 0 = .slice none l.length c := hs 0 (by simp); clear hs; have HB := hid (OldB.refl [] w)
 refine nr ?_; intros; refine pl ?_; refine lx [] ?_; clear sl0; intro _ sl0; refine lr ?_; intros; refine P2 ?_; refine lx [4] ?_; clear sl0; intro _ sl0 sl4; refine ln ?_; intros
 refine cond_t ?_
 refine nr ?_; intros; refine pl ?_; clear sl0 sl4; refine lx [2] ?_; intro _ sl2; refine ln ?_; intros
 refine ret_F _ (res_t Tryz.results96 ((getD_F (by decide)).trans sl2)) ?_
 have hl0 : l = [] := by rcases HR.out with h | ⟨b, o, h, _⟩; exact h; cases h
 exact ⟨_, rfl, by rw [hl0]; exact Own.nil _ _ _ _ _, HB.out.toBelow⟩

theorem cloneUnt_some (p : Addr) (c : Nat) (l : List Unt) (w : World) (hl : l.length ≤ 1000) (hR : RdUn w (some p) l) :
    Calls Tryz.prog 96 #[.slice (some p) l.length c] w (fun e w' => ∃ v, e = .returned v ∧ Own Unt.cs 2 69 w.heap.size w' v l ∧ Below w.heap.size w w') := by
 obtain ⟨i0, hi0, hz0, hz1, hz2⟩ := info_parts info_unt; have HR := hid hR; clear hR
 have hnil : ∀ w, (binOp .eql 40 (.slice (some p) l.length c) (.slice none 0 0)).run Tryz.prog w = .ok (.bool false) w := fun w => Lib.run_eql_slice_nil w _ _ _ _ _ _ _ Tryz.underlying40
 refine enter_F Tryz.func96 rfl Tryz.ntmps96 (by simp) ?_
 intro s0 hs; have sl0 : s0 0 = .slice (some p) l.length c := hs 0 (by simp); clear hs; have HB := hid (OldB.refl [] w)
 refine nr ?_; intros; refine pl ?_; refine lx [] ?_; clear sl0; intro _ sl0; refine lr ?_; intros; refine P2 ?_; refine lx [4] ?_; clear sl0; intro _ sl0 sl4; refine ln ?_; intros
 refine cond_f ?_
 refine nr ?_; intros; refine listF_step rfl (fun K' hK => ?_); unfold opF; go_simp; refine hK _ _ ?_; clear hK K'; refine listF_absw ?_; intro w3 hw'
 have hO5 : Own Unt.cs 2 69 w.heap.size w3 (.slice (some ⟨w.heap.size, 0, none⟩) 0 0) [] := by rw [hw']; exact Own.lit (l := ([] : List Unt)) (Nat.le_refl _) (by unfold maxLen; simp) rfl (fun _ => rfl)
 have hb : Below w.heap.size w w3 := by rw [hw']; exact below_alloc1 _ _
 clear hw'; replace HB := bE HB hb; clear hb; refine pl ?_; refine listF_step rfl (fun K' hK => ?_); have hzz := HB.out.size; refine opF_app (d := 7) rfl (by decide) (.tmp 5) (.tmp 6) _ rfl 69 i0 _ 24 Tryz.underlying40 hi0 hz0 hz1 hz2 rfl (by decide) (fun _ => rfl) unt_one w.heap.size _ [] l (some p) c (by go_simp) (by go_simp) hO5 (Rd.oldB HR.out HB.out (by simp)) (by unfold maxLen; simp; omega) (by simp; omega) (by omega) (fun v7 w5 hO7 hG7 hV7 => hK _ _ ?_); clear hK K'; replace HB := hid (HB.out.grown hG7 (fun k hk => .inl (by simp [Value.ownBlock] at hk; omega))); have HO7 := hid hO7; clear hO5 hG7 hV7 hzz hO7; refine pl ?_; clear sl0 sl4; refine lx [2] ?_; intro _ sl2; refine ln ?_; intros
 refine ret_F _ (res_t Tryz.results96 ((getD_F (by decide)).trans sl2)) ?_; exact ⟨_, rfl, HO7.out, HB.out.toBelow⟩

theorem cloneUnt_any (a : Option Addr) (c : Nat) (l : List Unt) (w : World) (hl : l.length ≤ 1000) (hR : RdUn w a l) :
    Calls Tryz.prog 96 #[.slice a l.length c] w fun e w' => ∃ v, e = .returned v ∧ Own Unt.cs 2 69 w.heap.size w' v l ∧ Below w.heap.size w w' := by
  cases a with
  | none => exact cloneUnt_none c l w hl hR
  | some p => exact cloneUnt_some p c l w hl hR
end

section
open Go.RowKit

def sfE_f (k : Nat) : Nat := match k with | 6 => 92 | 14 => 113 | 15 => 114 | 20 => 129 | 21 => 130 | 22 => 131 | 23 => 132 | 24 => 133 | 25 => 134 | 26 => 135 | 27 => 136 | 28 => 137 | 29 => 138 | 46 => 149 | 47 => 150 | 48 => 151 | 49 => 152 | 50 => 153 | 57 => 158 | _ => 0
def sfE_t (k : Nat) : Nat := match k with | 0 => 0 | 3 => 3 | 4 => 4 | 5 => 5 | 9 => 9 | 22 => 36 | 24 => 65 | 25 => 108 | 39 => 154 | 45 => 160 | 46 => 161 | 50 => 165 | 53 => 79 | 55 => 169 | 66 => 175 | 70 => 156 | 76 => 185 | 77 => 147 | _ => 0
def sfE_r : Go.Shelf.Ren := ⟨sfE_f, sfE_t, fun k => k⟩
theorem sfE_mixed : Tryz.prog.follows .mixedOrders = true := by kernel_rfl
theorem sfE_f6 : Bears Tryz.prog (sfE_r.f 6) (SlBodyF.n6 sfE_r) := ⟨Tryz.f92.name, by kernel_rfl, Tryz.func92.trans (congrArg some (by kernel_rfl))⟩
theorem sfE_f14 : Bears Tryz.prog (sfE_r.f 14) (SlBodyF.n14 sfE_r) := ⟨Tryz.f113.name, by kernel_rfl, Tryz.func113.trans (congrArg some (by kernel_rfl))⟩
theorem sfE_f15 : Tryz.prog.funcs[sfE_r.f 15]? = some (SlBodyF.n15 sfE_r) := Tryz.func114.trans (congrArg some (by kernel_rfl))
theorem sfE_f20 : Bears Tryz.prog (sfE_r.f 20) (SlBodyF.n20 sfE_r) := ⟨Tryz.f129.name, by kernel_rfl, Tryz.func129.trans (congrArg some (by kernel_rfl))⟩
theorem sfE_f21 : Bears Tryz.prog (sfE_r.f 21) (SlBodyF.n21 sfE_r) := ⟨Tryz.f130.name, by kernel_rfl, Tryz.func130.trans (congrArg some (by kernel_rfl))⟩
theorem sfE_f22 : Bears Tryz.prog (sfE_r.f 22) (SlBodyF.n22 sfE_r) := ⟨Tryz.f131.name, by kernel_rfl, Tryz.func131.trans (congrArg some (by kernel_rfl))⟩
theorem sfE_f23 : Bears Tryz.prog (sfE_r.f 23) (SlBodyF.n23 sfE_r) := ⟨Tryz.f132.name, by kernel_rfl, Tryz.func132.trans (congrArg some (by kernel_rfl))⟩
theorem sfE_f24 : Bears Tryz.prog (sfE_r.f 24) (SlBodyF.n24 sfE_r) := ⟨Tryz.f133.name, by kernel_rfl, Tryz.func133.trans (congrArg some (by kernel_rfl))⟩
theorem sfE_f25 : Bears Tryz.prog (sfE_r.f 25) (SlBodyF.n25 sfE_r) := ⟨Tryz.f134.name, by kernel_rfl, Tryz.func134.trans (congrArg some (by kernel_rfl))⟩
theorem sfE_f26 : Bears Tryz.prog (sfE_r.f 26) (SlBodyF.n26 sfE_r) := ⟨Tryz.f135.name, by kernel_rfl, Tryz.func135.trans (congrArg some (by kernel_rfl))⟩
theorem sfE_f27 : Bears Tryz.prog (sfE_r.f 27) (SlBodyF.n27 sfE_r) := ⟨Tryz.f136.name, by kernel_rfl, Tryz.func136.trans (congrArg some (by kernel_rfl))⟩
theorem sfE_f28 : Tryz.prog.funcs[sfE_r.f 28]? = some (SlBodyF.n28 sfE_r) := Tryz.func137.trans (congrArg some (by kernel_rfl))
theorem sfE_f29 : Tryz.prog.funcs[sfE_r.f 29]? = some (SlBodyF.n29 sfE_r) := Tryz.func138.trans (congrArg some (by kernel_rfl))
theorem sfE_f46 : Bears Tryz.prog (sfE_r.f 46) (SlBodyF.n46 sfE_r) := ⟨Tryz.f149.name, by kernel_rfl, Tryz.func149.trans (congrArg some (by kernel_rfl))⟩
theorem sfE_f47 : Tryz.prog.funcs[sfE_r.f 47]? = some (SlBodyF.n47 sfE_r) := Tryz.func150.trans (congrArg some (by kernel_rfl))
theorem sfE_f48 : Tryz.prog.funcs[sfE_r.f 48]? = some (SlBodyF.n48 sfE_r) := Tryz.func151.trans (congrArg some (by kernel_rfl))
theorem sfE_f49 : Bears Tryz.prog (sfE_r.f 49) (SlBodyF.n49 sfE_r) := ⟨Tryz.f152.name, by kernel_rfl, Tryz.func152.trans (congrArg some (by kernel_rfl))⟩
theorem sfE_f50 : Bears Tryz.prog (sfE_r.f 50) (SlBodyF.n50 sfE_r) := ⟨Tryz.f153.name, by kernel_rfl, Tryz.func153.trans (congrArg some (by kernel_rfl))⟩
theorem sfE_f57 : Bears Tryz.prog (sfE_r.f 57) (SlBodyF.n57 sfE_r) := ⟨Tryz.f158.name, by kernel_rfl, Tryz.func158.trans (congrArg some (by kernel_rfl))⟩
theorem sfE_t0 : Tryz.prog.underlying (sfE_r.t 0) = some (TypeDesc.tuple #[]) := by kernel_rfl
theorem sfE_a0 : ∀ w, (isAgg (sfE_r.t 0)).run Tryz.prog w = .ok false w := fun w => by kernel_rfl
theorem sfE_z0 : ∀ w, (Go.sizeOf (sfE_r.t 0)).run Tryz.prog w = .ok 1 w := fun w => by kernel_rfl
theorem sfE_v0 : ∀ w, (zeroValue (sfE_r.t 0)).run Tryz.prog w = .ok (Value.tuple #[]) w := fun w => by kernel_rfl
theorem sfE_t3 : Tryz.prog.underlying (sfE_r.t 3) = some (TypeDesc.int IntKind.i64) := by kernel_rfl
theorem sfE_a3 : ∀ w, (isAgg (sfE_r.t 3)).run Tryz.prog w = .ok false w := fun w => by kernel_rfl
theorem sfE_z3 : ∀ w, (Go.sizeOf (sfE_r.t 3)).run Tryz.prog w = .ok 1 w := fun w => by kernel_rfl
theorem sfE_v3 : ∀ w, (zeroValue (sfE_r.t 3)).run Tryz.prog w = .ok (Value.int IntKind.i64 0) w := fun w => by kernel_rfl
theorem sfE_t4 : Tryz.prog.underlying (sfE_r.t 4) = some (TypeDesc.bool) := by kernel_rfl
theorem sfE_a4 : ∀ w, (isAgg (sfE_r.t 4)).run Tryz.prog w = .ok false w := fun w => by kernel_rfl
theorem sfE_z4 : ∀ w, (Go.sizeOf (sfE_r.t 4)).run Tryz.prog w = .ok 1 w := fun w => by kernel_rfl
theorem sfE_v4 : ∀ w, (zeroValue (sfE_r.t 4)).run Tryz.prog w = .ok (Value.bool false) w := fun w => by kernel_rfl
theorem sfE_t5 : Tryz.prog.underlying (sfE_r.t 5) = some (TypeDesc.int IntKind.u8) := by kernel_rfl
theorem sfE_a5 : ∀ w, (isAgg (sfE_r.t 5)).run Tryz.prog w = .ok false w := fun w => by kernel_rfl
theorem sfE_z5 : ∀ w, (Go.sizeOf (sfE_r.t 5)).run Tryz.prog w = .ok 1 w := fun w => by kernel_rfl
theorem sfE_v5 : ∀ w, (zeroValue (sfE_r.t 5)).run Tryz.prog w = .ok (Value.int IntKind.u8 0) w := fun w => by kernel_rfl
theorem sfE_t9 : Tryz.prog.underlying (sfE_r.t 9) = some (TypeDesc.string) := by kernel_rfl
theorem sfE_a9 : ∀ w, (isAgg (sfE_r.t 9)).run Tryz.prog w = .ok false w := fun w => by kernel_rfl
theorem sfE_z9 : ∀ w, (Go.sizeOf (sfE_r.t 9)).run Tryz.prog w = .ok 1 w := fun w => by kernel_rfl
theorem sfE_v9 : ∀ w, (zeroValue (sfE_r.t 9)).run Tryz.prog w = .ok (Value.string { data := #[] }) w := fun w => by kernel_rfl
theorem sfE_t22 : Tryz.prog.underlying (sfE_r.t 22) = some (TypeDesc.slice (sfE_r.t 24)) := by kernel_rfl
theorem sfE_a22 : ∀ w, (isAgg (sfE_r.t 22)).run Tryz.prog w = .ok false w := fun w => by kernel_rfl
theorem sfE_z22 : ∀ w, (Go.sizeOf (sfE_r.t 22)).run Tryz.prog w = .ok 1 w := fun w => by kernel_rfl
theorem sfE_v22 : ∀ w, (zeroValue (sfE_r.t 22)).run Tryz.prog w = .ok (Value.slice none 0 0) w := fun w => by kernel_rfl
theorem sfE_t25 : Tryz.prog.underlying (sfE_r.t 25) = some (TypeDesc.func #[sfE_r.t 24, sfE_r.t 24] #[sfE_r.t 3] false) := by kernel_rfl
theorem sfE_a25 : ∀ w, (isAgg (sfE_r.t 25)).run Tryz.prog w = .ok false w := fun w => by kernel_rfl
theorem sfE_z25 : ∀ w, (Go.sizeOf (sfE_r.t 25)).run Tryz.prog w = .ok 1 w := fun w => by kernel_rfl
theorem sfE_v25 : ∀ w, (zeroValue (sfE_r.t 25)).run Tryz.prog w = .ok (Value.nilFunc) w := fun w => by kernel_rfl
theorem sfE_t39 : Tryz.prog.underlying (sfE_r.t 39) = some (TypeDesc.int IntKind.u64) := by kernel_rfl
theorem sfE_a39 : ∀ w, (isAgg (sfE_r.t 39)).run Tryz.prog w = .ok false w := fun w => by kernel_rfl
theorem sfE_z39 : ∀ w, (Go.sizeOf (sfE_r.t 39)).run Tryz.prog w = .ok 1 w := fun w => by kernel_rfl
theorem sfE_v39 : ∀ w, (zeroValue (sfE_r.t 39)).run Tryz.prog w = .ok (Value.int IntKind.u64 0) w := fun w => by kernel_rfl
theorem sfE_t45 : Tryz.prog.underlying (sfE_r.t 45) = some (TypeDesc.int IntKind.i64) := by kernel_rfl
theorem sfE_a45 : ∀ w, (isAgg (sfE_r.t 45)).run Tryz.prog w = .ok false w := fun w => by kernel_rfl
theorem sfE_z45 : ∀ w, (Go.sizeOf (sfE_r.t 45)).run Tryz.prog w = .ok 1 w := fun w => by kernel_rfl
theorem sfE_v45 : ∀ w, (zeroValue (sfE_r.t 45)).run Tryz.prog w = .ok (Value.int IntKind.i64 0) w := fun w => by kernel_rfl
theorem sfE_t46 : Tryz.prog.underlying (sfE_r.t 46) = some (TypeDesc.tuple #[sfE_r.t 3, sfE_r.t 45]) := by kernel_rfl
theorem sfE_a46 : ∀ w, (isAgg (sfE_r.t 46)).run Tryz.prog w = .ok false w := fun w => by kernel_rfl
theorem sfE_z46 : ∀ w, (Go.sizeOf (sfE_r.t 46)).run Tryz.prog w = .ok 1 w := fun w => by kernel_rfl
theorem sfE_v46 : ∀ w, (zeroValue (sfE_r.t 46)).run Tryz.prog w = .ok (Value.tuple #[Value.int IntKind.i64 0, Value.int IntKind.i64 0]) w := fun w => by kernel_rfl
theorem sfE_t50 : Tryz.prog.underlying (sfE_r.t 50) = some (TypeDesc.tuple #[sfE_r.t 3, sfE_r.t 4]) := by kernel_rfl
theorem sfE_a50 : ∀ w, (isAgg (sfE_r.t 50)).run Tryz.prog w = .ok false w := fun w => by kernel_rfl
theorem sfE_z50 : ∀ w, (Go.sizeOf (sfE_r.t 50)).run Tryz.prog w = .ok 1 w := fun w => by kernel_rfl
theorem sfE_v50 : ∀ w, (zeroValue (sfE_r.t 50)).run Tryz.prog w = .ok (Value.tuple #[Value.int IntKind.i64 0, Value.bool false]) w := fun w => by kernel_rfl
theorem sfE_t53 : Tryz.prog.underlying (sfE_r.t 53) = some (TypeDesc.int IntKind.u32) := by kernel_rfl
theorem sfE_a53 : ∀ w, (isAgg (sfE_r.t 53)).run Tryz.prog w = .ok false w := fun w => by kernel_rfl
theorem sfE_z53 : ∀ w, (Go.sizeOf (sfE_r.t 53)).run Tryz.prog w = .ok 1 w := fun w => by kernel_rfl
theorem sfE_v53 : ∀ w, (zeroValue (sfE_r.t 53)).run Tryz.prog w = .ok (Value.int IntKind.u32 0) w := fun w => by kernel_rfl
theorem sfE_t55 : Tryz.prog.underlying (sfE_r.t 55) = some (TypeDesc.int IntKind.u64) := by kernel_rfl
theorem sfE_a55 : ∀ w, (isAgg (sfE_r.t 55)).run Tryz.prog w = .ok false w := fun w => by kernel_rfl
theorem sfE_z55 : ∀ w, (Go.sizeOf (sfE_r.t 55)).run Tryz.prog w = .ok 1 w := fun w => by kernel_rfl
theorem sfE_v55 : ∀ w, (zeroValue (sfE_r.t 55)).run Tryz.prog w = .ok (Value.int IntKind.u64 0) w := fun w => by kernel_rfl
theorem sfE_t66 : Tryz.prog.underlying (sfE_r.t 66) = some (TypeDesc.int IntKind.u64) := by kernel_rfl
theorem sfE_a66 : ∀ w, (isAgg (sfE_r.t 66)).run Tryz.prog w = .ok false w := fun w => by kernel_rfl
theorem sfE_z66 : ∀ w, (Go.sizeOf (sfE_r.t 66)).run Tryz.prog w = .ok 1 w := fun w => by kernel_rfl
theorem sfE_v66 : ∀ w, (zeroValue (sfE_r.t 66)).run Tryz.prog w = .ok (Value.int IntKind.u64 0) w := fun w => by kernel_rfl
theorem sfE_t70 : Tryz.prog.underlying (sfE_r.t 70) = some (TypeDesc.pointer (sfE_r.t 3)) := by kernel_rfl
theorem sfE_a70 : ∀ w, (isAgg (sfE_r.t 70)).run Tryz.prog w = .ok false w := fun w => by kernel_rfl
theorem sfE_z70 : ∀ w, (Go.sizeOf (sfE_r.t 70)).run Tryz.prog w = .ok 1 w := fun w => by kernel_rfl
theorem sfE_v70 : ∀ w, (zeroValue (sfE_r.t 70)).run Tryz.prog w = .ok (Value.pointer none) w := fun w => by kernel_rfl
theorem sfE_t76 : Tryz.prog.underlying (sfE_r.t 76) = some (TypeDesc.pointer (sfE_r.t 66)) := by kernel_rfl
theorem sfE_a76 : ∀ w, (isAgg (sfE_r.t 76)).run Tryz.prog w = .ok false w := fun w => by kernel_rfl
theorem sfE_z76 : ∀ w, (Go.sizeOf (sfE_r.t 76)).run Tryz.prog w = .ok 1 w := fun w => by kernel_rfl
theorem sfE_v76 : ∀ w, (zeroValue (sfE_r.t 76)).run Tryz.prog w = .ok (Value.pointer none) w := fun w => by kernel_rfl
theorem sfE_t77 : Tryz.prog.underlying (sfE_r.t 77) = some (TypeDesc.tuple #[sfE_r.t 3, sfE_r.t 3]) := by kernel_rfl
theorem sfE_a77 : ∀ w, (isAgg (sfE_r.t 77)).run Tryz.prog w = .ok false w := fun w => by kernel_rfl
theorem sfE_z77 : ∀ w, (Go.sizeOf (sfE_r.t 77)).run Tryz.prog w = .ok 1 w := fun w => by kernel_rfl
theorem sfE_v77 : ∀ w, (zeroValue (sfE_r.t 77)).run Tryz.prog w = .ok (Value.tuple #[Value.int IntKind.i64 0, Value.int IntKind.i64 0]) w := fun w => by kernel_rfl
theorem sfE_lay : SlLaysF0.n6 Tryz.prog sfE_r := { mixed := sfE_mixed, f6 := sfE_f6, f14 := sfE_f14, f15 := sfE_f15, f20 := sfE_f20, f21 := sfE_f21, f22 := sfE_f22, f23 := sfE_f23, f24 := sfE_f24, f25 := sfE_f25, f26 := sfE_f26, f27 := sfE_f27, f28 := sfE_f28, f29 := sfE_f29, f46 := sfE_f46, f47 := sfE_f47, f48 := sfE_f48, f49 := sfE_f49, f50 := sfE_f50, f57 := sfE_f57, t0 := sfE_t0, a0 := sfE_a0, z0 := sfE_z0, v0 := sfE_v0, t3 := sfE_t3, a3 := sfE_a3, z3 := sfE_z3, v3 := sfE_v3, t4 := sfE_t4, a4 := sfE_a4, z4 := sfE_z4, v4 := sfE_v4, t5 := sfE_t5, a5 := sfE_a5, z5 := sfE_z5, v5 := sfE_v5, t9 := sfE_t9, a9 := sfE_a9, z9 := sfE_z9, v9 := sfE_v9, t22 := sfE_t22, a22 := sfE_a22, z22 := sfE_z22, v22 := sfE_v22, t25 := sfE_t25, a25 := sfE_a25, z25 := sfE_z25, v25 := sfE_v25, t39 := sfE_t39, a39 := sfE_a39, z39 := sfE_z39, v39 := sfE_v39, t45 := sfE_t45, a45 := sfE_a45, z45 := sfE_z45, v45 := sfE_v45, t46 := sfE_t46, a46 := sfE_a46, z46 := sfE_z46, v46 := sfE_v46, t50 := sfE_t50, a50 := sfE_a50, z50 := sfE_z50, v50 := sfE_v50, t53 := sfE_t53, a53 := sfE_a53, z53 := sfE_z53, v53 := sfE_v53, t55 := sfE_t55, a55 := sfE_a55, z55 := sfE_z55, v55 := sfE_v55, t66 := sfE_t66, a66 := sfE_a66, z66 := sfE_z66, v66 := sfE_v66, t70 := sfE_t70, a70 := sfE_a70, z70 := sfE_z70, v70 := sfE_v70, t76 := sfE_t76, a76 := sfE_a76, z76 := sfE_z76, v76 := sfE_v76, t77 := sfE_t77, a77 := sfE_a77, z77 := sfE_z77, v77 := sfE_v77 }

def sfU_f (k : Nat) : Nat := match k with | 6 => 97 | 14 => 116 | 15 => 114 | 20 => 139 | 21 => 140 | 22 => 141 | 23 => 142 | 24 => 143 | 25 => 144 | 26 => 145 | 27 => 146 | 28 => 137 | 29 => 138 | 46 => 154 | 47 => 150 | 48 => 151 | 49 => 155 | 50 => 156 | 57 => 159 | _ => 0
def sfU_t (k : Nat) : Nat := match k with | 0 => 0 | 3 => 3 | 4 => 4 | 5 => 5 | 9 => 9 | 22 => 40 | 24 => 69 | 25 => 114 | 39 => 154 | 45 => 160 | 46 => 161 | 50 => 165 | 53 => 79 | 55 => 169 | 66 => 175 | 70 => 156 | 76 => 185 | 77 => 147 | _ => 0
def sfU_r : Go.Shelf.Ren := ⟨sfU_f, sfU_t, fun k => k⟩
theorem sfU_mixed : Tryz.prog.follows .mixedOrders = true := by kernel_rfl
theorem sfU_f6 : Bears Tryz.prog (sfU_r.f 6) (SlBodyF.n6 sfU_r) := ⟨Tryz.f97.name, by kernel_rfl, Tryz.func97.trans (congrArg some (by kernel_rfl))⟩
theorem sfU_f14 : Bears Tryz.prog (sfU_r.f 14) (SlBodyF.n14 sfU_r) := ⟨Tryz.f116.name, by kernel_rfl, Tryz.func116.trans (congrArg some (by kernel_rfl))⟩
theorem sfU_f15 : Tryz.prog.funcs[sfU_r.f 15]? = some (SlBodyF.n15 sfU_r) := Tryz.func114.trans (congrArg some (by kernel_rfl))
theorem sfU_f20 : Bears Tryz.prog (sfU_r.f 20) (SlBodyF.n20 sfU_r) := ⟨Tryz.f139.name, by kernel_rfl, Tryz.func139.trans (congrArg some (by kernel_rfl))⟩
theorem sfU_f21 : Bears Tryz.prog (sfU_r.f 21) (SlBodyF.n21 sfU_r) := ⟨Tryz.f140.name, by kernel_rfl, Tryz.func140.trans (congrArg some (by kernel_rfl))⟩
theorem sfU_f22 : Bears Tryz.prog (sfU_r.f 22) (SlBodyF.n22 sfU_r) := ⟨Tryz.f141.name, by kernel_rfl, Tryz.func141.trans (congrArg some (by kernel_rfl))⟩
theorem sfU_f23 : Bears Tryz.prog (sfU_r.f 23) (SlBodyF.n23 sfU_r) := ⟨Tryz.f142.name, by kernel_rfl, Tryz.func142.trans (congrArg some (by kernel_rfl))⟩
theorem sfU_f24 : Bears Tryz.prog (sfU_r.f 24) (SlBodyF.n24 sfU_r) := ⟨Tryz.f143.name, by kernel_rfl, Tryz.func143.trans (congrArg some (by kernel_rfl))⟩
theorem sfU_f25 : Bears Tryz.prog (sfU_r.f 25) (SlBodyF.n25 sfU_r) := ⟨Tryz.f144.name, by kernel_rfl, Tryz.func144.trans (congrArg some (by kernel_rfl))⟩
theorem sfU_f26 : Bears Tryz.prog (sfU_r.f 26) (SlBodyF.n26 sfU_r) := ⟨Tryz.f145.name, by kernel_rfl, Tryz.func145.trans (congrArg some (by kernel_rfl))⟩
theorem sfU_f27 : Bears Tryz.prog (sfU_r.f 27) (SlBodyF.n27 sfU_r) := ⟨Tryz.f146.name, by kernel_rfl, Tryz.func146.trans (congrArg some (by kernel_rfl))⟩
theorem sfU_f28 : Tryz.prog.funcs[sfU_r.f 28]? = some (SlBodyF.n28 sfU_r) := Tryz.func137.trans (congrArg some (by kernel_rfl))
theorem sfU_f29 : Tryz.prog.funcs[sfU_r.f 29]? = some (SlBodyF.n29 sfU_r) := Tryz.func138.trans (congrArg some (by kernel_rfl))
theorem sfU_f46 : Bears Tryz.prog (sfU_r.f 46) (SlBodyF.n46 sfU_r) := ⟨Tryz.f154.name, by kernel_rfl, Tryz.func154.trans (congrArg some (by kernel_rfl))⟩
theorem sfU_f47 : Tryz.prog.funcs[sfU_r.f 47]? = some (SlBodyF.n47 sfU_r) := Tryz.func150.trans (congrArg some (by kernel_rfl))
theorem sfU_f48 : Tryz.prog.funcs[sfU_r.f 48]? = some (SlBodyF.n48 sfU_r) := Tryz.func151.trans (congrArg some (by kernel_rfl))
theorem sfU_f49 : Bears Tryz.prog (sfU_r.f 49) (SlBodyF.n49 sfU_r) := ⟨Tryz.f155.name, by kernel_rfl, Tryz.func155.trans (congrArg some (by kernel_rfl))⟩
theorem sfU_f50 : Bears Tryz.prog (sfU_r.f 50) (SlBodyF.n50 sfU_r) := ⟨Tryz.f156.name, by kernel_rfl, Tryz.func156.trans (congrArg some (by kernel_rfl))⟩
theorem sfU_f57 : Bears Tryz.prog (sfU_r.f 57) (SlBodyF.n57 sfU_r) := ⟨Tryz.f159.name, by kernel_rfl, Tryz.func159.trans (congrArg some (by kernel_rfl))⟩
theorem sfU_t0 : Tryz.prog.underlying (sfU_r.t 0) = some (TypeDesc.tuple #[]) := by kernel_rfl
theorem sfU_a0 : ∀ w, (isAgg (sfU_r.t 0)).run Tryz.prog w = .ok false w := fun w => by kernel_rfl
theorem sfU_z0 : ∀ w, (Go.sizeOf (sfU_r.t 0)).run Tryz.prog w = .ok 1 w := fun w => by kernel_rfl
theorem sfU_v0 : ∀ w, (zeroValue (sfU_r.t 0)).run Tryz.prog w = .ok (Value.tuple #[]) w := fun w => by kernel_rfl
theorem sfU_t3 : Tryz.prog.underlying (sfU_r.t 3) = some (TypeDesc.int IntKind.i64) := by kernel_rfl
theorem sfU_a3 : ∀ w, (isAgg (sfU_r.t 3)).run Tryz.prog w = .ok false w := fun w => by kernel_rfl
theorem sfU_z3 : ∀ w, (Go.sizeOf (sfU_r.t 3)).run Tryz.prog w = .ok 1 w := fun w => by kernel_rfl
theorem sfU_v3 : ∀ w, (zeroValue (sfU_r.t 3)).run Tryz.prog w = .ok (Value.int IntKind.i64 0) w := fun w => by kernel_rfl
theorem sfU_t4 : Tryz.prog.underlying (sfU_r.t 4) = some (TypeDesc.bool) := by kernel_rfl
theorem sfU_a4 : ∀ w, (isAgg (sfU_r.t 4)).run Tryz.prog w = .ok false w := fun w => by kernel_rfl
theorem sfU_z4 : ∀ w, (Go.sizeOf (sfU_r.t 4)).run Tryz.prog w = .ok 1 w := fun w => by kernel_rfl
theorem sfU_v4 : ∀ w, (zeroValue (sfU_r.t 4)).run Tryz.prog w = .ok (Value.bool false) w := fun w => by kernel_rfl
theorem sfU_t5 : Tryz.prog.underlying (sfU_r.t 5) = some (TypeDesc.int IntKind.u8) := by kernel_rfl
theorem sfU_a5 : ∀ w, (isAgg (sfU_r.t 5)).run Tryz.prog w = .ok false w := fun w => by kernel_rfl
theorem sfU_z5 : ∀ w, (Go.sizeOf (sfU_r.t 5)).run Tryz.prog w = .ok 1 w := fun w => by kernel_rfl
theorem sfU_v5 : ∀ w, (zeroValue (sfU_r.t 5)).run Tryz.prog w = .ok (Value.int IntKind.u8 0) w := fun w => by kernel_rfl
theorem sfU_t9 : Tryz.prog.underlying (sfU_r.t 9) = some (TypeDesc.string) := by kernel_rfl
theorem sfU_a9 : ∀ w, (isAgg (sfU_r.t 9)).run Tryz.prog w = .ok false w := fun w => by kernel_rfl
theorem sfU_z9 : ∀ w, (Go.sizeOf (sfU_r.t 9)).run Tryz.prog w = .ok 1 w := fun w => by kernel_rfl
theorem sfU_v9 : ∀ w, (zeroValue (sfU_r.t 9)).run Tryz.prog w = .ok (Value.string { data := #[] }) w := fun w => by kernel_rfl
theorem sfU_t22 : Tryz.prog.underlying (sfU_r.t 22) = some (TypeDesc.slice (sfU_r.t 24)) := by kernel_rfl
theorem sfU_a22 : ∀ w, (isAgg (sfU_r.t 22)).run Tryz.prog w = .ok false w := fun w => by kernel_rfl
theorem sfU_z22 : ∀ w, (Go.sizeOf (sfU_r.t 22)).run Tryz.prog w = .ok 1 w := fun w => by kernel_rfl
theorem sfU_v22 : ∀ w, (zeroValue (sfU_r.t 22)).run Tryz.prog w = .ok (Value.slice none 0 0) w := fun w => by kernel_rfl
theorem sfU_t25 : Tryz.prog.underlying (sfU_r.t 25) = some (TypeDesc.func #[sfU_r.t 24, sfU_r.t 24] #[sfU_r.t 3] false) := by kernel_rfl
theorem sfU_a25 : ∀ w, (isAgg (sfU_r.t 25)).run Tryz.prog w = .ok false w := fun w => by kernel_rfl
theorem sfU_z25 : ∀ w, (Go.sizeOf (sfU_r.t 25)).run Tryz.prog w = .ok 1 w := fun w => by kernel_rfl
theorem sfU_v25 : ∀ w, (zeroValue (sfU_r.t 25)).run Tryz.prog w = .ok (Value.nilFunc) w := fun w => by kernel_rfl
theorem sfU_t39 : Tryz.prog.underlying (sfU_r.t 39) = some (TypeDesc.int IntKind.u64) := by kernel_rfl
theorem sfU_a39 : ∀ w, (isAgg (sfU_r.t 39)).run Tryz.prog w = .ok false w := fun w => by kernel_rfl
theorem sfU_z39 : ∀ w, (Go.sizeOf (sfU_r.t 39)).run Tryz.prog w = .ok 1 w := fun w => by kernel_rfl
theorem sfU_v39 : ∀ w, (zeroValue (sfU_r.t 39)).run Tryz.prog w = .ok (Value.int IntKind.u64 0) w := fun w => by kernel_rfl
theorem sfU_t45 : Tryz.prog.underlying (sfU_r.t 45) = some (TypeDesc.int IntKind.i64) := by kernel_rfl
theorem sfU_a45 : ∀ w, (isAgg (sfU_r.t 45)).run Tryz.prog w = .ok false w := fun w => by kernel_rfl
theorem sfU_z45 : ∀ w, (Go.sizeOf (sfU_r.t 45)).run Tryz.prog w = .ok 1 w := fun w => by kernel_rfl
theorem sfU_v45 : ∀ w, (zeroValue (sfU_r.t 45)).run Tryz.prog w = .ok (Value.int IntKind.i64 0) w := fun w => by kernel_rfl
theorem sfU_t46 : Tryz.prog.underlying (sfU_r.t 46) = some (TypeDesc.tuple #[sfU_r.t 3, sfU_r.t 45]) := by kernel_rfl
theorem sfU_a46 : ∀ w, (isAgg (sfU_r.t 46)).run Tryz.prog w = .ok false w := fun w => by kernel_rfl
theorem sfU_z46 : ∀ w, (Go.sizeOf (sfU_r.t 46)).run Tryz.prog w = .ok 1 w := fun w => by kernel_rfl
theorem sfU_v46 : ∀ w, (zeroValue (sfU_r.t 46)).run Tryz.prog w = .ok (Value.tuple #[Value.int IntKind.i64 0, Value.int IntKind.i64 0]) w := fun w => by kernel_rfl
theorem sfU_t50 : Tryz.prog.underlying (sfU_r.t 50) = some (TypeDesc.tuple #[sfU_r.t 3, sfU_r.t 4]) := by kernel_rfl
theorem sfU_a50 : ∀ w, (isAgg (sfU_r.t 50)).run Tryz.prog w = .ok false w := fun w => by kernel_rfl
theorem sfU_z50 : ∀ w, (Go.sizeOf (sfU_r.t 50)).run Tryz.prog w = .ok 1 w := fun w => by kernel_rfl
theorem sfU_v50 : ∀ w, (zeroValue (sfU_r.t 50)).run Tryz.prog w = .ok (Value.tuple #[Value.int IntKind.i64 0, Value.bool false]) w := fun w => by kernel_rfl
theorem sfU_t53 : Tryz.prog.underlying (sfU_r.t 53) = some (TypeDesc.int IntKind.u32) := by kernel_rfl
theorem sfU_a53 : ∀ w, (isAgg (sfU_r.t 53)).run Tryz.prog w = .ok false w := fun w => by kernel_rfl
theorem sfU_z53 : ∀ w, (Go.sizeOf (sfU_r.t 53)).run Tryz.prog w = .ok 1 w := fun w => by kernel_rfl
theorem sfU_v53 : ∀ w, (zeroValue (sfU_r.t 53)).run Tryz.prog w = .ok (Value.int IntKind.u32 0) w := fun w => by kernel_rfl
theorem sfU_t55 : Tryz.prog.underlying (sfU_r.t 55) = some (TypeDesc.int IntKind.u64) := by kernel_rfl
theorem sfU_a55 : ∀ w, (isAgg (sfU_r.t 55)).run Tryz.prog w = .ok false w := fun w => by kernel_rfl
theorem sfU_z55 : ∀ w, (Go.sizeOf (sfU_r.t 55)).run Tryz.prog w = .ok 1 w := fun w => by kernel_rfl
theorem sfU_v55 : ∀ w, (zeroValue (sfU_r.t 55)).run Tryz.prog w = .ok (Value.int IntKind.u64 0) w := fun w => by kernel_rfl
theorem sfU_t66 : Tryz.prog.underlying (sfU_r.t 66) = some (TypeDesc.int IntKind.u64) := by kernel_rfl
theorem sfU_a66 : ∀ w, (isAgg (sfU_r.t 66)).run Tryz.prog w = .ok false w := fun w => by kernel_rfl
theorem sfU_z66 : ∀ w, (Go.sizeOf (sfU_r.t 66)).run Tryz.prog w = .ok 1 w := fun w => by kernel_rfl
theorem sfU_v66 : ∀ w, (zeroValue (sfU_r.t 66)).run Tryz.prog w = .ok (Value.int IntKind.u64 0) w := fun w => by kernel_rfl
theorem sfU_t70 : Tryz.prog.underlying (sfU_r.t 70) = some (TypeDesc.pointer (sfU_r.t 3)) := by kernel_rfl
theorem sfU_a70 : ∀ w, (isAgg (sfU_r.t 70)).run Tryz.prog w = .ok false w := fun w => by kernel_rfl
theorem sfU_z70 : ∀ w, (Go.sizeOf (sfU_r.t 70)).run Tryz.prog w = .ok 1 w := fun w => by kernel_rfl
theorem sfU_v70 : ∀ w, (zeroValue (sfU_r.t 70)).run Tryz.prog w = .ok (Value.pointer none) w := fun w => by kernel_rfl
theorem sfU_t76 : Tryz.prog.underlying (sfU_r.t 76) = some (TypeDesc.pointer (sfU_r.t 66)) := by kernel_rfl
theorem sfU_a76 : ∀ w, (isAgg (sfU_r.t 76)).run Tryz.prog w = .ok false w := fun w => by kernel_rfl
theorem sfU_z76 : ∀ w, (Go.sizeOf (sfU_r.t 76)).run Tryz.prog w = .ok 1 w := fun w => by kernel_rfl
theorem sfU_v76 : ∀ w, (zeroValue (sfU_r.t 76)).run Tryz.prog w = .ok (Value.pointer none) w := fun w => by kernel_rfl
theorem sfU_t77 : Tryz.prog.underlying (sfU_r.t 77) = some (TypeDesc.tuple #[sfU_r.t 3, sfU_r.t 3]) := by kernel_rfl
theorem sfU_a77 : ∀ w, (isAgg (sfU_r.t 77)).run Tryz.prog w = .ok false w := fun w => by kernel_rfl
theorem sfU_z77 : ∀ w, (Go.sizeOf (sfU_r.t 77)).run Tryz.prog w = .ok 1 w := fun w => by kernel_rfl
theorem sfU_v77 : ∀ w, (zeroValue (sfU_r.t 77)).run Tryz.prog w = .ok (Value.tuple #[Value.int IntKind.i64 0, Value.int IntKind.i64 0]) w := fun w => by kernel_rfl
theorem sfU_lay : SlLaysF0.n6 Tryz.prog sfU_r := { mixed := sfU_mixed, f6 := sfU_f6, f14 := sfU_f14, f15 := sfU_f15, f20 := sfU_f20, f21 := sfU_f21, f22 := sfU_f22, f23 := sfU_f23, f24 := sfU_f24, f25 := sfU_f25, f26 := sfU_f26, f27 := sfU_f27, f28 := sfU_f28, f29 := sfU_f29, f46 := sfU_f46, f47 := sfU_f47, f48 := sfU_f48, f49 := sfU_f49, f50 := sfU_f50, f57 := sfU_f57, t0 := sfU_t0, a0 := sfU_a0, z0 := sfU_z0, v0 := sfU_v0, t3 := sfU_t3, a3 := sfU_a3, z3 := sfU_z3, v3 := sfU_v3, t4 := sfU_t4, a4 := sfU_a4, z4 := sfU_z4, v4 := sfU_v4, t5 := sfU_t5, a5 := sfU_a5, z5 := sfU_z5, v5 := sfU_v5, t9 := sfU_t9, a9 := sfU_a9, z9 := sfU_z9, v9 := sfU_v9, t22 := sfU_t22, a22 := sfU_a22, z22 := sfU_z22, v22 := sfU_v22, t25 := sfU_t25, a25 := sfU_a25, z25 := sfU_z25, v25 := sfU_v25, t39 := sfU_t39, a39 := sfU_a39, z39 := sfU_z39, v39 := sfU_v39, t45 := sfU_t45, a45 := sfU_a45, z45 := sfU_z45, v45 := sfU_v45, t46 := sfU_t46, a46 := sfU_a46, z46 := sfU_z46, v46 := sfU_v46, t50 := sfU_t50, a50 := sfU_a50, z50 := sfU_z50, v50 := sfU_v50, t53 := sfU_t53, a53 := sfU_a53, z53 := sfU_z53, v53 := sfU_v53, t55 := sfU_t55, a55 := sfU_a55, z55 := sfU_z55, v55 := sfU_v55, t66 := sfU_t66, a66 := sfU_a66, z66 := sfU_z66, v66 := sfU_v66, t70 := sfU_t70, a70 := sfU_a70, z70 := sfU_z70, v70 := sfU_v70, t76 := sfU_t76, a76 := sfU_a76, z76 := sfU_z76, v76 := sfU_v76, t77 := sfU_t77, a77 := sfU_a77, z77 := sfU_z77, v77 := sfU_v77 }
end


end Go.Proofs.YtleknidlgmmgbaaGreat
