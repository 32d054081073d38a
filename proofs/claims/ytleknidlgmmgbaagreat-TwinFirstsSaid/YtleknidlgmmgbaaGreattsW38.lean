/- slices.SortFunc at entries and at units. -/
import Derived.Test.YtleknidlgmmgbaaGreattsW37
import Derived.Test.YtleknidlgmmgbaaGreattsT7
import Derived.Test.YtleknidlgmmgbaaGreattsCZ
set_option linter.all false
set_option maxRecDepth 100000
set_option maxHeartbeats 2000000
namespace Go.Proofs.YtleknidlgmmgbaaGreat

open Go.RowKit


theorem bitsLen0 (w : World) : Calls Tryz.prog 114 #[.int .u64 0] w fun e w' => e = .returned (.int .i64 ((Lib.bitLen 0 : Nat) : Int)) ∧ w = w' := by
  have h := Any.bits_Len (SlLaysF0.n15.bits (P := Tryz.prog) (ρ := sfE_r) { sfE_lay with }) (0 : Int) w (by omega) (by omega)
  exact h.mono fun e w' h => ⟨h.1, h.2.symm⟩

theorem XW38b {A B1 : Prop} (hX1 : B1) (e : B1 → A := by exact loop_F (n := 53) (fun kJ sJ wJ => kJ = 0 ∧ sJ 8 = .int .i64 1 ∧ sJ 0 = s1 0 ∧ sJ 1 = s1 1 ∧ sJ 2 = s1 2 ∧ sJ 3 = s1 3 ∧ OldB [] w wJ ∧ Hid (w = wJ)) ⟨rfl, (by first | exact sl8 | (rw [sl8]; go_num) | (rw [sl8]; rfl)), rfl, rfl, rfl, rfl, OldB.refl _ _, hid rfl⟩) : A := e hX1
theorem ins_nilE (w : World) :
    Calls Tryz.prog 129 #[.slice none 0 0, .int .i64 0, .int .i64 0, .func (.func 59) #[] #[]] w (fun e w' => e = .returned (.tuple #[]) ∧ w = w') := by
 have hww : w = w := rfl
 refine enter_F Tryz.func129 rfl Tryz.ntmps129 (by simp) ?_
 intro s0 hs; have sl0 : s0 0 = .slice none 0 0 := hs 0 (by simp); have sl1 : s0 1 = .int .i64 0 := hs 1 (by simp); have sl2 : s0 2 = .int .i64 0 := hs 2 (by simp); have sl3 : s0 3 = .func (.func 59) #[] #[] := hs 3 (by simp); clear hs; have HB := hid (OldB.refl [] w)
 refine nr ?_; intros
 refine P3 ?_
 refine lx [8] ?_; clear sl0 sl1 sl2 sl3; intro s1 sl0 sl1 sl2 sl3 sl8; refine ln ?_; intros
 have hc0_0 := hid sl0; have hc0_1 := hid sl1; have hc0_2 := hid sl2; have hc0_3 := hid sl3; refine XW38b ?_; clear sl8; rintro kJ s2 w3 ⟨rfl, sl8, e0, e1, e2, e3, hb, hww⟩; replace sl0 := e0.trans sl0; clear e0; replace sl1 := e1.trans sl1; clear e1; replace sl2 := e2.trans sl2; clear e2; replace sl3 := e3.trans sl3; clear e3; have hoJ := hb; replace HB := mO HB hb; clear hb; have HoJ := hid hoJ; clear hoJ; have HL5 := HoJ; clear HoJ
 refine nr ?_; intros
 refine P3 ?_
 refine lx [14] ?_; clear sl0 sl1 sl2 sl3 sl8; intro _ sl0 sl1 sl2 sl3 sl8 sl14; refine ln ?_; intros
 refine cond_E sl14 (by decide) ?_ ?_ <;> (clear sl14; intro h14 sl14)
 ·skip
  simp at h14
 ·skip
  refine zx ?_; intros
  clear HL5; clear hc0_0 hc0_1 hc0_2 hc0_3; refine norm_F _ (res_none Tryz.results129) ?_; exact ⟨rfl, hww.out⟩

theorem XW38c {A B1 : Prop} (hX1 : B1) (e : B1 → A := by exact loop_F (n := 148) (fun kJ sJ wJ => kJ = 0 ∧ sJ 1 = .int .i64 0 ∧ sJ 2 = .int .i64 0 ∧ sJ 3 = .int .i64 lim ∧ sJ 10 = .bool true ∧ sJ 11 = .bool true ∧ sJ 0 = s2 0 ∧ sJ 4 = s2 4 ∧ OldB [] w wJ ∧ Hid (w = wJ)) ⟨rfl, (by first | exact sl1 | (rw [sl1]; go_num) | (rw [sl1]; rfl)), (by first | exact sl2 | (rw [sl2]; go_num) | (rw [sl2]; rfl)), (by first | exact sl3 | (rw [sl3]; go_num) | (rw [sl3]; rfl)), (by first | exact sl10 | (rw [sl10]; go_num) | (rw [sl10]; rfl)), (by first | exact sl11 | (rw [sl11]; go_num) | (rw [sl11]; rfl)), rfl, rfl, OldB.refl _ _, hid rfl⟩) : A := e hX1
theorem pdq_nilE (lim : Int) (w : World) :
    Calls Tryz.prog 113 #[.slice none 0 0, .int .i64 0, .int .i64 0, .int .i64 lim, .func (.func 59) #[] #[]] w (fun e w' => e = .returned (.tuple #[]) ∧ w = w') := by
 have hww : w = w := rfl
 have w0 : IntKind.i64.wrap 0 = 0 := by decide
 refine enter_F Tryz.func113 rfl Tryz.ntmps113 (by simp) ?_
 intro s0 hs; have sl0 : s0 0 = .slice none 0 0 := hs 0 (by simp); have sl1 : s0 1 = .int .i64 0 := hs 1 (by simp); have sl2 : s0 2 = .int .i64 0 := hs 2 (by simp); have sl3 : s0 3 = .int .i64 lim := hs 3 (by simp); have sl4 : s0 4 = .func (.func 59) #[] #[] := hs 4 (by simp); clear hs; have HB := hid (OldB.refl [] w)
 refine nr ?_; intros; refine pl ?_; refine lx [10] ?_; clear sl0 sl1 sl2 sl3 sl4; intro _ sl0 sl1 sl2 sl3 sl4 sl10; refine lr ?_; intros; refine pl ?_; refine lx [11] ?_; clear sl0 sl1 sl2 sl3 sl4 sl10; intro s2 sl0 sl1 sl2 sl3 sl4 sl10 sl11; refine ln ?_; intros
 have hc0_0 := hid sl0; have hc0_4 := hid sl4; refine XW38c ?_; clear sl1 sl2 sl3 sl10 sl11; rintro kJ s3 w4 ⟨rfl, sl1, sl2, sl3, sl10, sl11, e0, e4, hb, hww⟩; replace sl0 := e0.trans sl0; clear e0; replace sl4 := e4.trans sl4; clear e4; have hoJ := hb; replace HB := mO HB hb; clear hb; have HoJ := hid hoJ; clear hoJ; have HL6 := HoJ; clear HoJ
 refine nr ?_; intros
 refine P4 ?_
 refine lx [12] ?_; clear sl0 sl1 sl2 sl3 sl4 sl10 sl11; intro _ sl0 sl1 sl2 sl3 sl4 sl10 sl11 sl12; refine lr ?_; intros; refine P2 ?_; refine lx [25] ?_; clear sl0 sl1 sl2 sl3 sl4 sl10 sl11 sl12; intro _ sl0 sl1 sl2 sl3 sl4 sl10 sl11 sl12 sl25; refine ln ?_; intros
 refine cond_t ?_
 refine nr ?_; intros
 refine P4 ?_
 refine cal (ins_nilE _) ?_; rintro e w' ⟨rfl, rfl⟩; refine ⟨_, rfl, ?_⟩; clear sl0 sl1 sl2 sl3 sl4 sl10 sl11 sl12 sl25; refine lx [] ?_; intro _; refine ln ?_; intros
 refine ret_F _ (res_none Tryz.results113) ?_; exact ⟨rfl, hww.out⟩

theorem sort_nilE (w : World) :
    Calls Tryz.prog 92 #[.slice none 0 0, .func (.func 59) #[] #[]] w (fun e w' => e = .returned (.tuple #[]) ∧ w = w') := by
 refine enter_F Tryz.func92 rfl Tryz.ntmps92 (by simp) ?_
 intro s0 hs; have sl0 : s0 0 = .slice none 0 0 := hs 0 (by simp); have sl1 : s0 1 = .func (.func 59) #[] #[] := hs 1 (by simp); clear hs; have HB := hid (OldB.refl [] w)
 refine nr ?_; intros
 refine P3 ?_
 refine lx [4] ?_; clear sl0 sl1; intro _ sl0 sl1 sl4; refine lr ?_; intros
 refine P4 ?_
 refine listF_step rfl (fun K' hK => ?_); unfold opF; go_simp; refine (bitsLen0 _).mono ?_; rintro e w' ⟨rfl, rfl⟩; refine ⟨_, rfl, hK _ _ ?_⟩; clear hK K'; refine pl ?_; refine listF_step rfl (fun K' hK => ?_); unfold opF; go_simp; refine (pdq_nilE _ _).mono ?_; rintro e w' ⟨rfl, rfl⟩; refine ⟨_, rfl, hK _ _ ?_⟩; clear hK K'; clear sl0 sl1 sl4; refine lx [] ?_; intro _; refine ln ?_; intros
 refine norm_F _ (res_none Tryz.results92) ?_; exact ⟨rfl, rfl⟩

theorem ins_nilU (w : World) :
    Calls Tryz.prog 139 #[.slice none 0 0, .int .i64 0, .int .i64 0, .func (.func 64) #[] #[]] w (fun e w' => e = .returned (.tuple #[]) ∧ w = w') := by
 have hww : w = w := rfl
 refine enter_F Tryz.func139 rfl Tryz.ntmps139 (by simp) ?_
 intro s0 hs; have sl0 : s0 0 = .slice none 0 0 := hs 0 (by simp); have sl1 : s0 1 = .int .i64 0 := hs 1 (by simp); have sl2 : s0 2 = .int .i64 0 := hs 2 (by simp); have sl3 : s0 3 = .func (.func 64) #[] #[] := hs 3 (by simp); clear hs; have HB := hid (OldB.refl [] w)
 refine nr ?_; intros
 refine P3 ?_
 refine lx [8] ?_; clear sl0 sl1 sl2 sl3; intro s1 sl0 sl1 sl2 sl3 sl8; refine ln ?_; intros
 have hc0_0 := hid sl0; have hc0_1 := hid sl1; have hc0_2 := hid sl2; have hc0_3 := hid sl3; refine XW38b ?_; clear sl8; rintro kJ s2 w3 ⟨rfl, sl8, e0, e1, e2, e3, hb, hww⟩; replace sl0 := e0.trans sl0; clear e0; replace sl1 := e1.trans sl1; clear e1; replace sl2 := e2.trans sl2; clear e2; replace sl3 := e3.trans sl3; clear e3; have hoJ := hb; replace HB := mO HB hb; clear hb; have HoJ := hid hoJ; clear hoJ; have HL5 := HoJ; clear HoJ
 refine nr ?_; intros
 refine P3 ?_
 refine lx [14] ?_; clear sl0 sl1 sl2 sl3 sl8; intro _ sl0 sl1 sl2 sl3 sl8 sl14; refine ln ?_; intros
 refine cond_E sl14 (by decide) ?_ ?_ <;> (clear sl14; intro h14 sl14)
 ·skip
  simp at h14
 ·skip
  refine zx ?_; intros
  clear HL5; clear hc0_0 hc0_1 hc0_2 hc0_3; refine norm_F _ (res_none Tryz.results139) ?_; exact ⟨rfl, hww.out⟩

theorem pdq_nilU (lim : Int) (w : World) :
    Calls Tryz.prog 116 #[.slice none 0 0, .int .i64 0, .int .i64 0, .int .i64 lim, .func (.func 64) #[] #[]] w (fun e w' => e = .returned (.tuple #[]) ∧ w = w') := by
 have hww : w = w := rfl
 have w0 : IntKind.i64.wrap 0 = 0 := by decide
 refine enter_F Tryz.func116 rfl Tryz.ntmps116 (by simp) ?_
 intro s0 hs; have sl0 : s0 0 = .slice none 0 0 := hs 0 (by simp); have sl1 : s0 1 = .int .i64 0 := hs 1 (by simp); have sl2 : s0 2 = .int .i64 0 := hs 2 (by simp); have sl3 : s0 3 = .int .i64 lim := hs 3 (by simp); have sl4 : s0 4 = .func (.func 64) #[] #[] := hs 4 (by simp); clear hs; have HB := hid (OldB.refl [] w)
 refine nr ?_; intros; refine pl ?_; refine lx [10] ?_; clear sl0 sl1 sl2 sl3 sl4; intro _ sl0 sl1 sl2 sl3 sl4 sl10; refine lr ?_; intros; refine pl ?_; refine lx [11] ?_; clear sl0 sl1 sl2 sl3 sl4 sl10; intro s2 sl0 sl1 sl2 sl3 sl4 sl10 sl11; refine ln ?_; intros
 have hc0_0 := hid sl0; have hc0_4 := hid sl4; refine XW38c ?_; clear sl1 sl2 sl3 sl10 sl11; rintro kJ s3 w4 ⟨rfl, sl1, sl2, sl3, sl10, sl11, e0, e4, hb, hww⟩; replace sl0 := e0.trans sl0; clear e0; replace sl4 := e4.trans sl4; clear e4; have hoJ := hb; replace HB := mO HB hb; clear hb; have HoJ := hid hoJ; clear hoJ; have HL6 := HoJ; clear HoJ
 refine nr ?_; intros
 refine P4 ?_
 refine lx [12] ?_; clear sl0 sl1 sl2 sl3 sl4 sl10 sl11; intro _ sl0 sl1 sl2 sl3 sl4 sl10 sl11 sl12; refine lr ?_; intros; refine P2 ?_; refine lx [25] ?_; clear sl0 sl1 sl2 sl3 sl4 sl10 sl11 sl12; intro _ sl0 sl1 sl2 sl3 sl4 sl10 sl11 sl12 sl25; refine ln ?_; intros
 refine cond_t ?_
 refine nr ?_; intros
 refine P4 ?_
 refine cal (ins_nilU _) ?_; rintro e w' ⟨rfl, rfl⟩; refine ⟨_, rfl, ?_⟩; clear sl0 sl1 sl2 sl3 sl4 sl10 sl11 sl12 sl25; refine lx [] ?_; intro _; refine ln ?_; intros
 refine ret_F _ (res_none Tryz.results116) ?_; exact ⟨rfl, hww.out⟩

theorem sort_nilU (w : World) :
    Calls Tryz.prog 97 #[.slice none 0 0, .func (.func 64) #[] #[]] w (fun e w' => e = .returned (.tuple #[]) ∧ w = w') := by
 refine enter_F Tryz.func97 rfl Tryz.ntmps97 (by simp) ?_
 intro s0 hs; have sl0 : s0 0 = .slice none 0 0 := hs 0 (by simp); have sl1 : s0 1 = .func (.func 64) #[] #[] := hs 1 (by simp); clear hs; have HB := hid (OldB.refl [] w)
 refine nr ?_; intros
 refine P3 ?_
 refine lx [4] ?_; clear sl0 sl1; intro _ sl0 sl1 sl4; refine lr ?_; intros
 refine P4 ?_
 refine listF_step rfl (fun K' hK => ?_); unfold opF; go_simp; refine (bitsLen0 _).mono ?_; rintro e w' ⟨rfl, rfl⟩; refine ⟨_, rfl, hK _ _ ?_⟩; clear hK K'; refine pl ?_; refine listF_step rfl (fun K' hK => ?_); unfold opF; go_simp; refine (pdq_nilU _ _).mono ?_; rintro e w' ⟨rfl, rfl⟩; refine ⟨_, rfl, hK _ _ ?_⟩; clear hK K'; clear sl0 sl1 sl4; refine lx [] ?_; intro _; refine ln ?_; intros
 refine norm_F _ (res_none Tryz.results97) ?_; exact ⟨rfl, rfl⟩


abbrev EntS := { x : Ent // EntB x }
abbrev UntS := { x : Unt // UntB x }
instance : Inhabited EntS := ⟨⟨⟨1, 1, 0, ByteArray.empty⟩, by unfold EntB; decide⟩⟩
instance : Inhabited UntS := ⟨⟨⟨1, ByteArray.empty⟩, by unfold UntB; decide⟩⟩
theorem ltE_eq (x y : EntS) : ltOf (fun a b : EntS => cmpE a.1 b.1) x y = soonE x.1 y.1 := (soon_cmp x.1 y.1).symm
theorem cmpS_lt (a b : ByteArray) : cmpS a b < 0 ↔ Op.bytesLess a.toList b.toList = true := by
  unfold cmpS
  by_cases h : Op.bytesLess a.toList b.toList = true
  · simp [h]
  · by_cases h2 : Op.bytesLess b.toList a.toList = true <;> simp [h, h2]
theorem ltU_eq (x y : UntS) : ltOf (fun a b : UntS => cmpU a.1 b.1) x y = uLess x.1 y.1 := by
  show decide (cmpU x.1 y.1 < 0) = _
  rw [Bool.eq_iff_iff, decide_eq_true_eq, uLess_iff]; unfold cmpU orL orL orL
  by_cases h1 : x.1.mach - y.1.mach = 0
  · have e : x.1.mach = y.1.mach := by omega
    rw [if_neg (by simp [h1]), ← cmpS_lt]
    by_cases h2 : cmpS x.1.unit y.1.unit = 0
    · rw [if_neg (by simp [h2]), h2]; constructor <;> intro h <;> omega
    · rw [if_pos h2]; constructor
      · intro h; exact .inr ⟨e, h⟩
      · rintro (h | ⟨_, h⟩); omega; exact h
  · rw [if_pos h1]; constructor
    · intro h; exact .inl (by omega)
    · rintro (h | ⟨h, _⟩) <;> omega
theorem swoE : Go.Sort.SWO (ltOf (fun a b : EntS => cmpE a.1 b.1)) where
  irrefl x := by rw [ltE_eq, Bool.eq_false_iff]; intro h; have := soon_iff.1 h; omega
  trans x y z h1 h2 := by rw [ltE_eq] at *; have a := soon_iff.1 h1; have b := soon_iff.1 h2; exact soon_iff.2 (by omega)
  ntrans x y z h1 h2 := by
    rw [ltE_eq] at *; rw [Bool.eq_false_iff] at *; intro h; have c := soon_iff.1 h
    by_cases a : soonE x.1 y.1 = true
    · exact h1 a
    · by_cases b : soonE y.1 z.1 = true
      · exact h2 b
      · rw [soon_iff] at a b; omega
theorem swoU : Go.Sort.SWO (ltOf (fun a b : UntS => cmpU a.1 b.1)) where
  irrefl x := by
    rw [ltU_eq, Bool.eq_false_iff]; intro h
    rcases uLess_iff.1 h with h | ⟨_, h⟩
    · omega
    · rw [bl_irrefl] at h; cases h
  trans x y z h1 h2 := by
    rw [ltU_eq] at *; rw [uLess_iff] at *
    rcases h1 with h1 | ⟨h1, h1'⟩ <;> rcases h2 with h2 | ⟨h2, h2'⟩
    · exact .inl (by omega)
    · exact .inl (by omega)
    · exact .inl (by omega)
    · exact .inr ⟨by omega, bl_trans h1' h2'⟩
  ntrans x y z h1 h2 := by
    rw [ltU_eq] at *; rw [Bool.eq_false_iff] at *; intro h; rw [ne_eq, uLess_iff] at h1 h2
    rcases uLess_iff.1 h with h | ⟨h, h'⟩
    · by_cases e : x.1.mach < y.1.mach
      · exact h1 (.inl e)
      · exact h2 (.inl (by omega))
    · by_cases e : x.1.mach < y.1.mach
      · exact h1 (.inl e)
      · by_cases e2 : y.1.mach < z.1.mach
        · exact h2 (.inl e2)
        · rcases bl_tri x.1.unit.toList y.1.unit.toList with t | t | t
          · exact h1 (.inr ⟨by omega, t⟩)
          · rw [t] at h'; exact h2 (.inr ⟨by omega, h'⟩)
          · exact h2 (.inr ⟨by omega, bl_trans t h'⟩)
theorem pmap_val {β : Type} {p : β → Prop} : ∀ (l : List β) (h : ∀ x ∈ l, p x), (l.pmap Subtype.mk h).map Subtype.val = l := by
  intro l h; rw [List.map_pmap]; simp
theorem flat_map {β : Type} {p : β → Prop} (f : β → List Value) : ∀ (l : List {x // p x}), l.flatMap (fun x => f x.1) = (l.map Subtype.val).flatMap f
  | [] => rfl
  | x :: l => by rw [List.flatMap_cons, List.map_cons, List.flatMap_cons, flat_map f l]
theorem sortE_any (b cap : Nat) (l : List Ent) (w : World) (hl : ∀ x ∈ l, EntB x) (hC : Cells w b (l.flatMap Ent.cs)) (hsz : l.length ≤ 1000) :
    Calls Tryz.prog 92 #[.slice (some ⟨b, 0, none⟩) l.length cap, .func (.func 59) #[] #[]] w (fun e w' => e = .returned (.tuple #[]) ∧ ∃ m : List Ent, m.Perm l ∧ m.Pairwise (fun x y => soonE y x = false) ∧ Cells w' b (m.flatMap Ent.cs) ∧ OldB [b] w w') := by
  have hC' : Cells w b ((l.pmap Subtype.mk hl).flatMap (fun x : EntS => Ent.cs x.1)) := by rw [flat_map, pmap_val]; exact hC
  have hlen : (l.pmap Subtype.mk hl).length = l.length := by simp
  have := sort_row (β := EntS) sfE_lay 4 (fun w => by kernel_rfl) (fun w => by kernel_rfl) (fun x => Ent.cs x.1) (fun _ => rfl) (fun x => ent_one x.1) (fun a b => cmpE a.1 b.1) swoE 59 #[] (fun _ _ => rfl) (fun x y W => by rw [Array.append_empty]; exact merge2_ex x.1 y.1 x.2 y.2 W) b cap (l.pmap Subtype.mk hl) w hC' (by rw [hlen]; omega); rw [hlen] at this; refine Calls.mono (h := this) ?_; rintro e w' ⟨rfl, m, hp, hs, hc, ho⟩; refine ⟨rfl, m.map Subtype.val, ?_, ?_, by rw [← flat_map]; exact hc, ho⟩
  · have := hp.map Subtype.val; rwa [pmap_val] at this
  · rw [List.pairwise_map]; exact hs.imp (fun h => by rw [ltE_eq] at h; exact h)
theorem sortU_any (b cap : Nat) (l : List Unt) (w : World) (hl : ∀ x ∈ l, UntB x) (hC : Cells w b (l.flatMap Unt.cs)) (hsz : l.length ≤ 1000) :
    Calls Tryz.prog 97 #[.slice (some ⟨b, 0, none⟩) l.length cap, .func (.func 64) #[] #[]] w (fun e w' => e = .returned (.tuple #[]) ∧ ∃ m : List Unt, m.Perm l ∧ m.Pairwise (fun x y => uLess y x = false) ∧ Cells w' b (m.flatMap Unt.cs) ∧ OldB [b] w w') := by
  have hC' : Cells w b ((l.pmap Subtype.mk hl).flatMap (fun x : UntS => Unt.cs x.1)) := by rw [flat_map, pmap_val]; exact hC
  have hlen : (l.pmap Subtype.mk hl).length = l.length := by simp
  have := sort_row (β := UntS) sfU_lay 2 (fun w => by kernel_rfl) (fun w => by kernel_rfl) (fun x => Unt.cs x.1) (fun _ => rfl) (fun x => unt_one x.1) (fun a b => cmpU a.1 b.1) swoU 64 #[] (fun _ _ => rfl) (fun x y W => by rw [Array.append_empty]; exact susp1_ex x.1 y.1 W x.2 y.2) b cap (l.pmap Subtype.mk hl) w hC' (by rw [hlen]; omega); rw [hlen] at this; refine Calls.mono (h := this) ?_; rintro e w' ⟨rfl, m, hp, hs, hc, ho⟩; refine ⟨rfl, m.map Subtype.val, ?_, ?_, by rw [← flat_map]; exact hc, ho⟩
  · have := hp.map Subtype.val; rwa [pmap_val] at this
  · rw [List.pairwise_map]; exact hs.imp (fun h => by rw [ltU_eq] at h; exact h)

end Go.Proofs.YtleknidlgmmgbaaGreat
