/- slices.SortFunc at entries and at units. -/
import Derived.Test.YtleknidlgmmgbaaGreatteW35
import Derived.Test.YtleknidlgmmgbaaGreatteW28
import Derived.Test.YtleknidlgmmgbaaGreatteG14
import Derived.Test.YtleknidlgmmgbaaGreatteT7
import Derived.Test.YtleknidlgmmgbaaGreatteCZ
set_option linter.all false
set_option maxRecDepth 100000
set_option maxHeartbeats 4000000
namespace Go.Proofs.YtleknidlgmmgbaaGreat

section
open Go.RowKit

theorem cmpOr_s (a : Option Addr) (c : Nat) (l : List Int) (w : World) (hR : RdInts w a l) (hl : l.length ≤ 1000) :
    Calls Tryz.prog 94 #[.slice a l.length c] w (fun e w' => e = .returned (.int .i64 (orL l)) ∧ w = w') := by
 have HR := hid hR; clear hR; have hww : w = w := rfl
 refine enter_F Tryz.func94 rfl Tryz.ntmps94 (by simp) ?_
 intro s0 hs; have sl0 : s0 0 = .slice a l.length c := hs 0 (by simp); clear hs; have HB := hid (OldB.refl [] w)
 refine nr ?_; intros; refine pl ?_; refine lx [] ?_; clear sl0; intro _ sl0; refine lr ?_; intros; refine pl ?_; refine lx [3] ?_; clear sl0; intro _ sl0 sl3; refine lr ?_; intros
 refine P3 ?_
 clear sl0; refine lx [6,7,8] ?_; clear sl3; intro s3 sl3 sl6 sl7 sl8; refine ln ?_; intros
 have hc0_3 := hid sl3; have hc0_6 := hid sl6; have hc0_7 := hid sl7; refine loop_F (n := 18) (fun kJ sJ wJ => ∃ (i : Nat), kJ = l.length - i ∧ sJ 8 = .int .i64 (i : Int) ∧ sJ 3 = s3 3 ∧ sJ 6 = s3 6 ∧ sJ 7 = s3 7 ∧ OldB [] w wJ ∧ i ≤ l.length ∧ Hid (w = wJ) ∧ (Hid (∀ j, (hj : j < l.length) → j < i → l[j] = 0))) ⟨0, rfl, (by first | exact sl8 | (rw [sl8]; go_num) | (rw [sl8]; rfl)), rfl, rfl, rfl, OldB.refl _ _, Nat.zero_le _, hid rfl, hid (fun j hj h => by omega)⟩ ?_; clear sl8; rintro kJ s4 w5 ⟨i, rfl, sl8, e3, e6, e7, hb, hil, hww, Hz⟩; replace sl3 := e3.trans sl3; clear e3; replace sl6 := e6.trans sl6; clear e6; replace sl7 := e7.trans sl7; clear e7; have hoJ := hb; replace HB := mO HB hb; clear hb; have HoJ := hid hoJ; clear hoJ; have HL7 := HoJ; clear HoJ
 refine nr ?_; intros; refine pl ?_; refine lx [9] ?_; clear sl3 sl6 sl7 sl8; intro _ sl3 sl6 sl7 sl8 sl9; refine ln ?_; intros
 refine cond_E sl9 (by decide) ?_ ?_ <;> (clear sl9; intro h9 sl9)
 ·skip
  have hi : i < l.length := by simpa using h9
  have hii : (i : Int) < l.length := by omega
  obtain ⟨bx, ox, hax, hbx, cx⟩ := RdInts.ne (Rd.oldB HR.out HB.out (by simp)) hi; subst hax; obtain ⟨y, hy⟩ : ∃ y, l[i] = y := ⟨_, rfl⟩; rw [hy] at cx; have Hy := hid hy; clear hy
  refine nr ?_; intros
  refine P3 ?_
  clear sl9; refine lx [5] ?_; clear sl3 sl6 sl7 sl8; intro _ sl3 sl6 sl7 sl8 sl5; refine lr ?_; intros
  refine P3 ?_
  refine lx [14] ?_; clear sl3 sl5 sl6 sl7 sl8; intro _ sl3 sl5 sl6 sl7 sl8 sl14; refine ln ?_; intros
  refine cond_E sl14 (by decide) ?_ ?_ <;> (clear sl14; intro h14 sl14)
  ·skip
   have hy0 : ¬ y = 0 := by simpa using h14
   have Hr := hid (show orL l = y by rw [orL_found hi Hz.out (by rw [Hy.out]; exact hy0), Hy.out])
   refine nr ?_; intros; refine P2 ?_; clear sl3 sl5 sl6 sl7 sl8 sl14; refine lx [2] ?_; intro _ sl2; refine ln ?_; intros
   refine ret_F _ (res_t Tryz.results94 ((getD_F (by decide)).trans sl2)) ?_; exact ⟨by rw [Hr.out], hww.out⟩
  ·skip
   have hy0 : y = 0 := by simpa using h14
   have Hy0 := hid hy0; clear hy0 h14
   refine nr ?_; intros; refine P2 ?_; clear sl8 sl5 sl14; refine lx [8] ?_; clear sl3 sl6 sl7; intro _ sl3 sl6 sl7 sl8; refine ln ?_; intros
   refine ⟨_, _, rfl, ?_, i + 1, rfl, (rL sl8), (sl3.trans hc0_3.out.symm), (sl6.trans hc0_6.out.symm), (sl7.trans hc0_7.out.symm), HL7.out, by omega, hww, hid (fun j hj h => by rcases Nat.lt_or_ge j i with h3 | h3 <;> first | exact Hz.out j hj h3 | (have e : j = i := (by omega); subst e; rw [Hy.out]; exact Hy0.out))⟩
   omega
 ·skip
  have hi : i = l.length := by have h := h9; simp at h; omega
  have Hr := hid (orL_zero (l := l) (fun j hj => Hz.out j hj (by omega)))
  refine zx ?_; intros
  clear HL7; clear hc0_3 hc0_6 hc0_7; refine region_F ?_; refine P2 ?_; clear sl3 sl6 sl7 sl8 sl9; refine lx [2] ?_; intro _ sl2; refine ln ?_; intros
  refine ret_F _ (res_t Tryz.results94 ((getD_F (by decide)).trans sl2)) ?_; exact ⟨by rw [Hr.out], hww.out⟩

theorem tfirst_s (a : Option Addr) (c : Nat) (l : List Int) (w : World) (hR : RdInts w a l) (hl : l.length ≤ 1000) :
    Calls Tryz.prog 60 #[.slice a l.length c] w (fun e w' => e = .returned (.int .i64 (orL l)) ∧ w = w') := by
 have HR := hid hR; clear hR
 refine enter_F Tryz.func60 rfl Tryz.ntmps60 (by simp) ?_
 intro s0 hs; have sl0 : s0 0 = .slice a l.length c := hs 0 (by simp); clear hs; have HB := hid (OldB.refl [] w)
 refine nr ?_; intros; refine pl ?_; refine lx [] ?_; clear sl0; intro _ sl0; refine lr ?_; intros; refine pl ?_; refine cal (cmpOr_s a c l _ HR.out hl) ?_; rintro e w' ⟨rfl, rfl⟩; refine ⟨_, rfl, ?_⟩; refine pl ?_; clear sl0; refine lx [2] ?_; intro _ sl2; refine ln ?_; intros
 refine ret_F _ (res_t Tryz.results60 ((getD_F (by decide)).trans sl2)) ?_; exact ⟨rfl, rfl⟩


/-- what Merge asks of an entry's numbers -/
def EntB (x : Ent) : Prop := (1 ≤ x.num ∧ x.num ≤ 1000000) ∧ (1 ≤ x.mach ∧ x.mach ≤ 2) ∧ (0 ≤ x.day ∧ x.day ≤ 40000)
theorem cmpE_or (x y : Ent) : cmpE x y = orL [x.day - y.day, x.mach - y.mach, x.num - y.num] := by
  unfold cmpE orL orL orL orL
  by_cases h1 : x.day - y.day = 0 <;> by_cases h2 : x.mach - y.mach = 0 <;> by_cases h3 : x.num - y.num = 0 <;> simp [h1, h2, h3]
theorem merge2_ex (x y : Ent) (hx : EntB x) (hy : EntB y) (W : World) : Calls Tryz.prog 59 #[.agg #[.int .i64 x.num, .int .i64 x.mach, .int .i64 x.day, .string x.unit], .agg #[.int .i64 y.num, .int .i64 y.mach, .int .i64 y.day, .string y.unit]] W fun e w' => e = .returned (.int .i64 (cmpE x y)) ∧ ∃ q os', w' = Go.Sort.grow (W.drewN q) os' := by
  obtain ⟨⟨a1, a2⟩, ⟨a3, a4⟩, a5, a6⟩ := hx; obtain ⟨⟨b1, b2⟩, ⟨b3, b4⟩, b5, b6⟩ := hy; have w1 : IntKind.i64.wrap (x.day - y.day) = x.day - y.day := IntWalk.i64_in _ (by omega); have w2 : IntKind.i64.wrap (x.mach - y.mach) = x.mach - y.mach := IntWalk.i64_in _ (by omega); have w3 : IntKind.i64.wrap (x.num - y.num) = x.num - y.num := IntWalk.i64_in _ (by omega)
  have hcon : ∀ (B : Nat) (T : TypeId) (W' : World), B = W'.heap.size → Calls Tryz.prog 60 #[.slice (some ⟨B, 0, none⟩) 3 3] (W'.alloc (.cells #[.int .i64 (x.day - y.day), .int .i64 (x.mach - y.mach), .int .i64 (x.num - y.num)] T)) fun e w' => e = .returned (.int .i64 (cmpE x y)) ∧ W'.alloc (.cells #[.int .i64 (x.day - y.day), .int .i64 (x.mach - y.mach), .int .i64 (x.num - y.num)] T) = w' := by
    intro B T W' hB; subst hB; rw [cmpE_or]; exact tfirst_s (some ⟨W'.heap.size, 0, none⟩) 3 [x.day - y.day, x.mach - y.mach, x.num - y.num] _ (Cells.rd (f := int1) (m := 1) (fun _ => rfl) (Cells.newL (l := [.int .i64 (x.day - y.day), .int .i64 (x.mach - y.mach), .int .i64 (x.num - y.num)]))) (by simp)
  clear a1 a2 a3 a4 a5 a6 b1 b2 b3 b4 b5 b6
  generalize cmpE x y = r at hcon ⊢
  go_enter Tryz.func59, Tryz.ntmps59
  go_wp2_with (go_at_call 60; refine (hcon _ _ _ (by simp)).mono ?_; rintro e w' ⟨rfl, rfl⟩)
  go_ret
  exact ⟨rfl, 0, _, by rw [Go.Sort.alloc_eq_grow, Go.Sort.alloc_eq_grow, Go.Sort.alloc_eq_grow, Go.Sort.grow_grow, Go.Sort.grow_grow]; rfl⟩
/-- what Suspects asks of a unit's number -/
def UntB (x : Unt) : Prop := 1 ≤ x.mach ∧ x.mach ≤ 2
def cmpU (x y : Unt) : Int := orL [x.mach - y.mach, cmpS x.unit y.unit]

theorem XW38d {A : Prop} (e : A := by intro K' hK; unfold opF; go_simp; exact hK) : A := e
theorem XW38b {A : Prop} (e : A := by
 rintro sJ wJ hbJ hunJ hdJ
 have sv2 := (hunJ 2 (by decide) (un_of (by kernel_rfl))).trans sl2; rw [if_pos (by rfl)]; exact opD_val XW38d) : A := e
theorem XW38c {A : Prop} (e : A := by
 rintro sJ wJ hbJ hunJ hdJ
 have sv3 := (hunJ 3 (by decide) (un_of (by kernel_rfl))).trans sl3; rw [if_pos (by rfl)]; exact opD_val XW38d) : A := e
theorem susp1_ex (x y : Unt) (w : World) (hx : UntB x) (hy : UntB y) :
    Calls Tryz.prog 64 #[.agg #[.int .i64 x.mach, .string x.unit], .agg #[.int .i64 y.mach, .string y.unit]] w (fun e w' => e = .returned (.int .i64 (cmpU x y)) ∧ ∃ q os', w' = Go.Sort.grow (w.drewN q) os') := by
 obtain ⟨a1, a2⟩ := hx; obtain ⟨b1, b2⟩ := hy; have w1 : IntKind.i64.wrap (x.mach - y.mach) = x.mach - y.mach := IntWalk.i64_in _ (by omega); have hd : w.drawn ≤ w.drawn := Nat.le_refl _
 refine enter_F Tryz.func64 rfl Tryz.ntmps64 (by simp) ?_
 intro s0 hs; have sl0 : s0 0 = .agg #[.int .i64 x.mach, .string x.unit] := hs 0 (by simp); have sl1 : s0 1 = .agg #[.int .i64 y.mach, .string y.unit] := hs 1 (by simp); clear hs; have HB := hid (OldB.refl [] w)
 refine nr ?_; intros; obtain ⟨B2, hB⟩ : ∃ b, b = w.heap.size := ⟨_, rfl⟩; have gb2' := HB.out.gB hB; refine listF_step rfl (fun K' hK => ?_); unfold opF; go_simp; refine hK _ _ ?_; clear hK K'; refine listF_absw ?_; intro w1 hw'
 have hb : Below w.heap.size w w1 := by rw [hw']; exact below_alloc1 _ _
 replace hd : w.drawn ≤ w1.drawn := by rw [hw']; exact hd
 have kb2' : Cells w1 B2 [.int .i64 x.mach, .string x.unit] := by rw [hw', hB]; exact Cells.newL (l := [.int .i64 x.mach, .string x.unit])
 rw [← hB]; clear hw' hB; replace HB := bE HB hb; clear hb; have kb2 := kb2'; clear kb2'; have qb2 := kb2.1; obtain ⟨B3, hB⟩ : ∃ b, b = w1.heap.size := ⟨_, rfl⟩; have gb3' := HB.out.gB hB; refine listF_step rfl (fun K' hK => ?_); unfold opF; go_simp; refine hK _ _ ?_; clear hK K'; refine listF_absw ?_; intro w3 hw'
 have hb : Below w1.heap.size w1 w3 := by rw [hw']; exact below_alloc1 _ _
 replace hd : w.drawn ≤ w3.drawn := by rw [hw']; exact hd
 have kb3' : Cells w3 B3 [.int .i64 y.mach, .string y.unit] := by rw [hw', hB]; exact Cells.newL (l := [.int .i64 y.mach, .string y.unit])
 rw [← hB]; clear hw' hB; clear qb2; revert HB; revert kb2; refine uA hb ?_; clear hb; intro kb2 qb2 HB; have kb3 := kb3'; clear kb3'; have qb3 := kb3.1; refine pl ?_; clear sl0 sl1; refine lx [2,3] ?_; intro _ sl2 sl3; refine ln ?_; intros
 refine regD 10 [fun v _ _ _ => v = .pointer (some ⟨B2, 0, none⟩), fun v _ _ _ => v = .int .i64 x.mach, fun v _ _ _ => v = .pointer (some ⟨B3, 0, none⟩), fun v _ _ _ => v = .int .i64 y.mach, fun v _ _ _ => v = .int .i64 (x.mach - y.mach), fun v _ _ _ => v = .pointer (some ⟨B2, 1, none⟩), fun v _ _ _ => v = .string x.unit, fun v _ _ _ => v = .pointer (some ⟨B3, 1, none⟩), fun v _ _ _ => v = .string y.unit, fun v _ _ _ => v = .int .i64 (cmpS x.unit y.unit)] (by kernel_rfl) (by kernel_rfl) (by kernel_rfl) (by kernel_rfl) ⟨fun _ _ _ _ _ h _ => h, fun _ _ _ _ _ h _ => h, fun _ _ _ _ _ h _ => h, fun _ _ _ _ _ h _ => h, fun _ _ _ _ _ h _ => h, fun _ _ _ _ _ h _ => h, fun _ _ _ _ _ h _ => h, fun _ _ _ _ _ h _ => h, fun _ _ _ _ _ h _ => h, fun _ _ _ _ _ h _ => h, trivial⟩ ⟨?_, ?_, ?_, ?_, ?_, ?_, ?_, ?_, ?_, ?_, trivial⟩ ?_
 · exact XW38b
 · rintro sJ wJ hbJ hunJ hdJ
   have sv5 : sJ 5 = .pointer (some ⟨B2, 0, none⟩) := (hdJ 0 (by kernel_rfl) 5 rfl).elim fun _ h => h.elim fun _ h => h.2.2
   have kJ := kb2.at hbJ; have qJ := kJ.1; have cJ_0 := kJ.cell 0 rfl; rw [if_pos (by rfl)]; exact opD_val XW38d
 · exact XW38c
 · rintro sJ wJ hbJ hunJ hdJ
   have sv7 : sJ 7 = .pointer (some ⟨B3, 0, none⟩) := (hdJ 2 (by kernel_rfl) 7 rfl).elim fun _ h => h.elim fun _ h => h.2.2
   have kJ := kb3.at hbJ; have qJ := kJ.1; have cJ_0 := kJ.cell 0 rfl; rw [if_pos (by rfl)]; exact opD_val XW38d
 · rintro sJ wJ hbJ hunJ hdJ
   have sv6 : sJ 6 = .int .i64 x.mach := (hdJ 1 (by kernel_rfl) 6 rfl).elim fun _ h => h.elim fun _ h => h.2.2
   have sv8 : sJ 8 = .int .i64 y.mach := (hdJ 3 (by kernel_rfl) 8 rfl).elim fun _ h => h.elim fun _ h => h.2.2
   rw [if_pos (by rfl)]; exact opD_val XW38d
 · exact XW38b
 · rintro sJ wJ hbJ hunJ hdJ
   have sv10 : sJ 10 = .pointer (some ⟨B2, 1, none⟩) := (hdJ 5 (by kernel_rfl) 10 rfl).elim fun _ h => h.elim fun _ h => h.2.2
   have kJ := kb2.at hbJ; have qJ := kJ.1; have cJ_1 := kJ.cell 1 rfl; rw [if_pos (by rfl)]; exact opD_val XW38d
 · exact XW38c
 · rintro sJ wJ hbJ hunJ hdJ
   have sv12 : sJ 12 = .pointer (some ⟨B3, 1, none⟩) := (hdJ 7 (by kernel_rfl) 12 rfl).elim fun _ h => h.elim fun _ h => h.2.2
   have kJ := kb3.at hbJ; have qJ := kJ.1; have cJ_1 := kJ.cell 1 rfl; rw [if_pos (by rfl)]; exact opD_val XW38d
 · rintro sJ wJ hbJ hunJ hdJ
   have sv11 : sJ 11 = .string x.unit := (hdJ 6 (by kernel_rfl) 11 rfl).elim fun _ h => h.elim fun _ h => h.2.2
   have sv13 : sJ 13 = .string y.unit := (hdJ 8 (by kernel_rfl) 13 rfl).elim fun _ h => h.elim fun _ h => h.2.2
   rw [if_pos (by rfl)]; unfold opF; go_simp; refine (cmpS_any x.unit y.unit _).mono ?_; rintro e wN ⟨rfl, rfl⟩; exact ⟨_, rfl, rfl, Below.refl _ _, Nat.le_refl _⟩
 intro s8 w6 aJ bJ hb hdr hunJ hvJ hapJ; clear sl2 sl3; have sl9 : s8 9 = .int .i64 (x.mach - y.mach) := (hvJ 4 (by decide)).2.2.2 9 rfl; have sl14 : s8 14 = .int .i64 (cmpS x.unit y.unit) := (hvJ 9 (by decide)).2.2.2 14 rfl; clear hunJ hvJ hapJ; have gS := HB.out.size; replace hd := Nat.le_trans hd hdr; clear hdr; clear qb2 qb3; revert HB; revert kb3; revert kb2; refine uA hb ?_; clear hb; intro kb2 qb2 kb3 qb3 HB; obtain ⟨B15, hB⟩ : ∃ b, b = w6.heap.size := ⟨_, rfl⟩; have gb15' := HB.out.gB hB; refine listF_step rfl (fun K' hK => ?_); unfold opF; go_simp; refine hK _ _ ?_; clear hK K'; refine listF_absw ?_; intro w9 hw'
 have hb : Below w6.heap.size w6 w9 := by rw [hw']; exact below_alloc1 _ _
 replace hd : w.drawn ≤ w9.drawn := by rw [hw']; exact hd
 have kb15' : Cells w9 B15 [.int .i64 (x.mach - y.mach), .int .i64 (cmpS x.unit y.unit)] := by rw [hw', hB]; exact Cells.newL (l := [.int .i64 (x.mach - y.mach), .int .i64 (cmpS x.unit y.unit)])
 rw [← hB]; clear hw' hB; clear qb2 qb3; revert HB; revert kb3; revert kb2; refine uA hb ?_; clear hb; intro kb2 qb2 kb3 qb3 HB; have kb15 := kb15'; clear kb15'; have qb15 := kb15.1; refine cal (tfirst_s (some ⟨B15, 0, none⟩) 2 [x.mach - y.mach, cmpS x.unit y.unit] _ (Cells.rd (f := int1) (m := 1) (l := [x.mach - y.mach, cmpS x.unit y.unit]) (fun _ => rfl) kb15) (by simp)) ?_; rintro e w' ⟨rfl, rfl⟩; refine ⟨_, rfl, ?_⟩; refine pl ?_; clear sl9 sl14; refine lx [4] ?_; intro _ sl4; refine ln ?_; intros
 refine ret_F _ (res_t Tryz.results64 ((getD_F (by decide)).trans sl4)) ?_; exact ⟨rfl, ex_grow HB.out.toBelow hd⟩
end

section
open Go.RowKit

theorem idx_div {k j n : Nat} (h : j < n * k) : j / k < n ∧ j % k < k ∧ j / k * k + j % k = j := by
  have hk : 0 < k := by rcases Nat.eq_zero_or_pos k with e | e; subst e; simp at h; exact e
  refine ⟨(Nat.div_lt_iff_lt_mul hk).2 h, Nat.mod_lt _ hk, ?_⟩
  rw [Nat.mul_comm]; exact Nat.div_add_mod j k
theorem flat_inv {β : Type} {f : β → List Value} {k : Nat} (hk : ∀ x, (f x).length = k) : ∀ (l : List β) (t : Nat) (v : Value), (l.flatMap f)[t]? = some v → t < l.length * k
  | [], t, v, h => by simp at h
  | x :: l, t, v, h => by
    rw [List.flatMap_cons] at h
    by_cases ht : t < k
    · rw [List.length_cons, Nat.add_mul, Nat.one_mul]; omega
    · rw [List.getElem?_append_right (by rw [hk]; omega), hk] at h
      have := flat_inv hk l _ _ h
      rw [List.length_cons, Nat.add_mul, Nat.one_mul]; omega
theorem flat_at {β : Type} [Inhabited β] {f : β → List Value} {k : Nat} (hk : ∀ x, (f x).length = k) (l : List β) {t : Nat} (h : t < l.length * k) : (l.flatMap f)[t]? = some (f l.toArray[t / k]!)[t % k]! := by
  obtain ⟨h1, h2, h3⟩ := idx_div h
  have e1 : l.toArray[t / k]! = l[t / k] := by simp [h1]
  have := flat_get f k hk l (t / k) l[t / k] (List.getElem?_eq_getElem h1) (t % k) (f l[t / k])[t % k]! (by rw [getElem!_pos _ _ (by rw [hk]; exact h2)]; exact List.getElem?_eq_getElem _)
  rw [h3] at this
  rw [this, e1]
theorem holds_of_cells {β : Type} [Inhabited β] {f : β → List Value} {k : Nat} (hk : ∀ x, (f x).length = k) {w : World} {b : Nat} {l : List β} (h : Cells w b (l.flatMap f)) : Go.Sort.HoldsK f k w b 0 l.toArray := by
  intro t ht
  rw [Go.Sort.size_flatK] at ht
  have ht' : t < l.length * k := by simpa using ht
  rw [Nat.zero_add]
  refine ⟨?_, h.2.2 t⟩
  rw [h.2.1 t _ (flat_at hk l ht'), Go.Sort.get_flatK _ _ _ _ ht]; rfl
theorem cells_of_holds {β : Type} [Inhabited β] {f : β → List Value} {k : Nat} (hk : ∀ x, (f x).length = k) {w : World} {b : Nat} {d : Array β} (hb : b < w.heap.size) (hf : ∀ o, w.frozen? ⟨b, o, none⟩ = false) (h : Go.Sort.HoldsK f k w b 0 d) : Cells w b (d.toList.flatMap f) := by
  refine ⟨hb, fun t v hv => ?_, hf⟩
  have ht := flat_inv hk _ _ _ hv
  have ht' : t < (Go.Sort.flatK f k d).size := by rw [Go.Sort.size_flatK]; simpa using ht
  have h1 := (h t ht').1
  rw [Nat.zero_add, Go.Sort.get_flatK _ _ _ _ (by simpa using ht)] at h1
  rw [flat_at hk _ ht] at hv
  rw [h1, ← hv]; rfl
theorem sortW_old {β : Type} [Inhabited β] (f : β → List Value) (k : Nat) (w : World) (b n : Nat) (d : Array β) (os : Array Obj) : OldB [b] w (sortWorldK f k w b 0 n d os) ∧ (b < w.heap.size → (∀ o, w.frozen? ⟨b, o, none⟩ = false) → ∀ o, (sortWorldK f k w b 0 n d os).frozen? ⟨b, o, none⟩ = false) := by
  have hsz : (Go.Sort.putRowK f k (Go.Sort.ahead w n) b 0 d).heap.size = w.heap.size := by
    show (Go.Sort.putRow id (Go.Sort.ahead w n) b 0 _).heap.size = _
    rw [Go.Sort.size_putRow]; rfl
  refine ⟨⟨rfl, rfl, rfl, ?_, fun c hc hn => ?_⟩, fun hb hf o => ?_⟩
  · show w.heap.size ≤ ((Go.Sort.putRowK f k (Go.Sort.ahead w n) b 0 d).heap ++ os).size
    rw [Array.size_append, hsz]; omega
  · show ((Go.Sort.putRowK f k (Go.Sort.ahead w n) b 0 d).heap ++ os)[c]? = _
    rw [Array.getElem?_append, if_pos (by rw [hsz]; exact hc)]
    show (w.heap.modify b _)[c]? = _
    rw [Array.getElem?_modify, if_neg (fun e => hn (by simp [e]))]
  · have h1 : (Go.Sort.grow (Go.Sort.putRowK f k (Go.Sort.ahead w n) b 0 d) os).frozen? ⟨b, o, none⟩ = (Go.Sort.putRowK f k (Go.Sort.ahead w n) b 0 d).frozen? ⟨b, o, none⟩ := by
      refine frozBk ?_
      show ((Go.Sort.putRowK f k (Go.Sort.ahead w n) b 0 d).heap ++ os)[b]? = _
      rw [Array.getElem?_append, if_pos (by rw [hsz]; exact hb)]
    show (Go.Sort.grow (Go.Sort.putRowK f k (Go.Sort.ahead w n) b 0 d) os).frozen? ⟨b, o, none⟩ = false
    rw [h1]
    show (Go.Sort.putRow id (Go.Sort.ahead w n) b 0 _).frozen? ⟨b, o, none⟩ = false
    rw [Go.Sort.frozen?_putRow]; exact hf o
theorem perm_of {β : Type} [Inhabited β] {d d' : Array β} (h : Go.Sort.PermIn 0 d.size d d') : d'.toList.Perm d.toList := by
  have h3 := h.2.2
  have e1 : d'.extract 0 d.size = d' := by rw [← h.1]; simp
  have e2 : d.extract 0 d.size = d := by simp
  rwa [e1, e2] at h3
theorem pair_of {β : Type} [Inhabited β] {lt : β → β → Bool} {d : Array β} {n : Nat} (hn : n = d.size) (h : Go.Sort.SortedIn lt 0 n d) : d.toList.Pairwise (fun x y => lt y x = false) := by
  rw [List.pairwise_iff_getElem]
  intro i j hi hj hij
  have := h i j (Nat.zero_le _) hij (by rw [hn]; simpa using hj)
  rw [getElem!_pos d j (by simpa using hj), getElem!_pos d i (by simpa using hi)] at this
  simpa using this
/-- slices.SortFunc, over cells -/
theorem sort_row {P : Program} {ρ : Go.Shelf.Ren} {β : Type} [Inhabited β] (L : SlLaysF0.n6 P ρ) (k : Nat) (aE : ∀ w, (isAgg (ρ.t 24)).run P w = .ok true w) (zE : ∀ w, (Go.sizeOf (ρ.t 24)).run P w = .ok k w) (f : β → List Value) (hk : ∀ x, (f x).length = k) (h1 : ∀ x, ∀ v ∈ f x, v.oneCell' = true) (cf : β → β → Int) (hO : Go.Sort.SWO (ltOf cf)) (g : Nat) (cb : Array Value)
    (eg : ∀ args w, (callFunc g args).run P w = .ok (.enter g args) w) (hcmp : ∀ x y W, Calls P g (#[.agg (f x).toArray, .agg (f y).toArray] ++ cb) W fun e w' => e = .returned (.int .i64 (cf x y)) ∧ ∃ q os', w' = Go.Sort.grow (W.drewN q) os') (b cap : Nat) (l : List β) (w : World) (hC : Cells w b (l.flatMap f)) (hsz : l.length < 4611686018427387904) :
    Calls P (ρ.f 6) #[.slice (some ⟨b, 0, none⟩) l.length cap, .func (.func g) #[] cb] w fun e w' => e = .returned (.tuple #[]) ∧ ∃ m : List β, m.Perm l ∧ m.Pairwise (fun x y => ltOf cf y x = false) ∧ Cells w' b (m.flatMap f) ∧ OldB [b] w w' := by
  have hH := holds_of_cells hk hC
  have hb := hC.1
  have := AnyQ.slices_SortFunc L k aE zE f hk h1 cf hO g cb b 0 cap l.toArray w eg (fun _ _ _ _ x y => hcmp x y _) hH hb (by simpa using hsz)
  rw [List.size_toArray] at this
  refine this.mono ?_
  rintro e w' ⟨rfl, d', n, os, hp, hs, rfl⟩
  have hp' : Go.Sort.PermIn 0 l.toArray.size l.toArray d' := by rw [List.size_toArray]; exact hp
  have hsd : d'.size = l.toArray.size := hp.1
  obtain ⟨ho, hfz⟩ := sortW_old f k w b n d' os
  refine ⟨rfl, d'.toList, perm_of hp', pair_of (by rw [hsd, List.size_toArray]) hs, ?_, ho⟩
  refine cells_of_holds hk (Nat.lt_of_lt_of_le hb ho.size) (hfz hb hC.2.2) ?_
  exact SWK.holds ⟨n, os, rfl⟩ hb hH hsd
end

section
open Go.RowKit


theorem bitsLen0 (w : World) : Calls Tryz.prog 114 #[.int .u64 0] w fun e w' => e = .returned (.int .i64 ((Lib.bitLen 0 : Nat) : Int)) ∧ w = w' := by
  have h := Any.bits_Len (SlLaysF0.n15.bits (P := Tryz.prog) (ρ := sfE_r) { sfE_lay with }) (0 : Int) w (by omega) (by omega)
  exact h.mono fun e w' h => ⟨h.1, h.2.symm⟩

theorem XW38e {A B1 : Prop} (hX1 : B1) (e : B1 → A := by exact loop_F (n := 53) (fun kJ sJ wJ => kJ = 0 ∧ sJ 8 = .int .i64 1 ∧ sJ 0 = s1 0 ∧ sJ 1 = s1 1 ∧ sJ 2 = s1 2 ∧ sJ 3 = s1 3 ∧ OldB [] w wJ ∧ Hid (w = wJ)) ⟨rfl, (by first | exact sl8 | (rw [sl8]; go_num) | (rw [sl8]; rfl)), rfl, rfl, rfl, rfl, OldB.refl _ _, hid rfl⟩) : A := e hX1
theorem ins_nilE (w : World) :
    Calls Tryz.prog 129 #[.slice none 0 0, .int .i64 0, .int .i64 0, .func (.func 59) #[] #[]] w (fun e w' => e = .returned (.tuple #[]) ∧ w = w') := by
 have hww : w = w := rfl
 refine enter_F Tryz.func129 rfl Tryz.ntmps129 (by simp) ?_
 intro s0 hs; have sl0 : s0 0 = .slice none 0 0 := hs 0 (by simp); have sl1 : s0 1 = .int .i64 0 := hs 1 (by simp); have sl2 : s0 2 = .int .i64 0 := hs 2 (by simp); have sl3 : s0 3 = .func (.func 59) #[] #[] := hs 3 (by simp); clear hs; have HB := hid (OldB.refl [] w)
 refine nr ?_; intros
 refine P3 ?_
 refine lx [8] ?_; clear sl0 sl1 sl2 sl3; intro s1 sl0 sl1 sl2 sl3 sl8; refine ln ?_; intros
 have hc0_0 := hid sl0; have hc0_1 := hid sl1; have hc0_2 := hid sl2; have hc0_3 := hid sl3; refine XW38e ?_; clear sl8; rintro kJ s2 w3 ⟨rfl, sl8, e0, e1, e2, e3, hb, hww⟩; replace sl0 := e0.trans sl0; clear e0; replace sl1 := e1.trans sl1; clear e1; replace sl2 := e2.trans sl2; clear e2; replace sl3 := e3.trans sl3; clear e3; have hoJ := hb; replace HB := mO HB hb; clear hb; have HoJ := hid hoJ; clear hoJ; have HL5 := HoJ; clear HoJ
 refine nr ?_; intros
 refine P3 ?_
 refine lx [14] ?_; clear sl0 sl1 sl2 sl3 sl8; intro _ sl0 sl1 sl2 sl3 sl8 sl14; refine ln ?_; intros
 refine cond_E sl14 (by decide) ?_ ?_ <;> (clear sl14; intro h14 sl14)
 ·skip
  simp at h14
 ·skip
  refine zx ?_; intros
  clear HL5; clear hc0_0 hc0_1 hc0_2 hc0_3; refine norm_F _ (res_none Tryz.results129) ?_; exact ⟨rfl, hww.out⟩

theorem XW38f {A B1 : Prop} (hX1 : B1) (e : B1 → A := by exact loop_F (n := 148) (fun kJ sJ wJ => kJ = 0 ∧ sJ 1 = .int .i64 0 ∧ sJ 2 = .int .i64 0 ∧ sJ 3 = .int .i64 lim ∧ sJ 10 = .bool true ∧ sJ 11 = .bool true ∧ sJ 0 = s2 0 ∧ sJ 4 = s2 4 ∧ OldB [] w wJ ∧ Hid (w = wJ)) ⟨rfl, (by first | exact sl1 | (rw [sl1]; go_num) | (rw [sl1]; rfl)), (by first | exact sl2 | (rw [sl2]; go_num) | (rw [sl2]; rfl)), (by first | exact sl3 | (rw [sl3]; go_num) | (rw [sl3]; rfl)), (by first | exact sl10 | (rw [sl10]; go_num) | (rw [sl10]; rfl)), (by first | exact sl11 | (rw [sl11]; go_num) | (rw [sl11]; rfl)), rfl, rfl, OldB.refl _ _, hid rfl⟩) : A := e hX1
theorem pdq_nilE (lim : Int) (w : World) :
    Calls Tryz.prog 113 #[.slice none 0 0, .int .i64 0, .int .i64 0, .int .i64 lim, .func (.func 59) #[] #[]] w (fun e w' => e = .returned (.tuple #[]) ∧ w = w') := by
 have hww : w = w := rfl
 have w0 : IntKind.i64.wrap 0 = 0 := by decide
 refine enter_F Tryz.func113 rfl Tryz.ntmps113 (by simp) ?_
 intro s0 hs; have sl0 : s0 0 = .slice none 0 0 := hs 0 (by simp); have sl1 : s0 1 = .int .i64 0 := hs 1 (by simp); have sl2 : s0 2 = .int .i64 0 := hs 2 (by simp); have sl3 : s0 3 = .int .i64 lim := hs 3 (by simp); have sl4 : s0 4 = .func (.func 59) #[] #[] := hs 4 (by simp); clear hs; have HB := hid (OldB.refl [] w)
 refine nr ?_; intros; refine pl ?_; refine lx [10] ?_; clear sl0 sl1 sl2 sl3 sl4; intro _ sl0 sl1 sl2 sl3 sl4 sl10; refine lr ?_; intros; refine pl ?_; refine lx [11] ?_; clear sl0 sl1 sl2 sl3 sl4 sl10; intro s2 sl0 sl1 sl2 sl3 sl4 sl10 sl11; refine ln ?_; intros
 have hc0_0 := hid sl0; have hc0_4 := hid sl4; refine XW38f ?_; clear sl1 sl2 sl3 sl10 sl11; rintro kJ s3 w4 ⟨rfl, sl1, sl2, sl3, sl10, sl11, e0, e4, hb, hww⟩; replace sl0 := e0.trans sl0; clear e0; replace sl4 := e4.trans sl4; clear e4; have hoJ := hb; replace HB := mO HB hb; clear hb; have HoJ := hid hoJ; clear hoJ; have HL6 := HoJ; clear HoJ
 refine nr ?_; intros
 refine P4 ?_
 refine lx [12] ?_; clear sl0 sl1 sl2 sl3 sl4 sl10 sl11; intro _ sl0 sl1 sl2 sl3 sl4 sl10 sl11 sl12; refine lr ?_; intros; refine P2 ?_; refine lx [25] ?_; clear sl0 sl1 sl2 sl3 sl4 sl10 sl11 sl12; intro _ sl0 sl1 sl2 sl3 sl4 sl10 sl11 sl12 sl25; refine ln ?_; intros
 refine cond_t ?_
 refine nr ?_; intros
 refine P4 ?_
 refine cal (ins_nilE _) ?_; rintro e w' ⟨rfl, rfl⟩; refine ⟨_, rfl, ?_⟩; clear sl0 sl1 sl2 sl3 sl4 sl10 sl11 sl12 sl25; refine lx [] ?_; intro _; refine ln ?_; intros
 refine ret_F _ (res_none Tryz.results113) ?_; exact ⟨rfl, hww.out⟩

theorem sort_nilE (w : World) :
    Calls Tryz.prog 92 #[.slice none 0 0, .func (.func 59) #[] #[]] w (fun e w' => e = .returned (.tuple #[]) ∧ w = w') := by
 refine enter_F Tryz.func92 rfl Tryz.ntmps92 (by simp) ?_
 intro s0 hs; have sl0 : s0 0 = .slice none 0 0 := hs 0 (by simp); have sl1 : s0 1 = .func (.func 59) #[] #[] := hs 1 (by simp); clear hs; have HB := hid (OldB.refl [] w)
 refine nr ?_; intros
 refine P3 ?_
 refine lx [4] ?_; clear sl0 sl1; intro _ sl0 sl1 sl4; refine lr ?_; intros
 refine P4 ?_
 refine listF_step rfl (fun K' hK => ?_); unfold opF; go_simp; refine (bitsLen0 _).mono ?_; rintro e w' ⟨rfl, rfl⟩; refine ⟨_, rfl, hK _ _ ?_⟩; clear hK K'; refine pl ?_; refine listF_step rfl (fun K' hK => ?_); unfold opF; go_simp; refine (pdq_nilE _ _).mono ?_; rintro e w' ⟨rfl, rfl⟩; refine ⟨_, rfl, hK _ _ ?_⟩; clear hK K'; clear sl0 sl1 sl4; refine lx [] ?_; intro _; refine ln ?_; intros
 refine norm_F _ (res_none Tryz.results92) ?_; exact ⟨rfl, rfl⟩

theorem ins_nilU (w : World) :
    Calls Tryz.prog 139 #[.slice none 0 0, .int .i64 0, .int .i64 0, .func (.func 64) #[] #[]] w (fun e w' => e = .returned (.tuple #[]) ∧ w = w') := by
 have hww : w = w := rfl
 refine enter_F Tryz.func139 rfl Tryz.ntmps139 (by simp) ?_
 intro s0 hs; have sl0 : s0 0 = .slice none 0 0 := hs 0 (by simp); have sl1 : s0 1 = .int .i64 0 := hs 1 (by simp); have sl2 : s0 2 = .int .i64 0 := hs 2 (by simp); have sl3 : s0 3 = .func (.func 64) #[] #[] := hs 3 (by simp); clear hs; have HB := hid (OldB.refl [] w)
 refine nr ?_; intros
 refine P3 ?_
 refine lx [8] ?_; clear sl0 sl1 sl2 sl3; intro s1 sl0 sl1 sl2 sl3 sl8; refine ln ?_; intros
 have hc0_0 := hid sl0; have hc0_1 := hid sl1; have hc0_2 := hid sl2; have hc0_3 := hid sl3; refine XW38e ?_; clear sl8; rintro kJ s2 w3 ⟨rfl, sl8, e0, e1, e2, e3, hb, hww⟩; replace sl0 := e0.trans sl0; clear e0; replace sl1 := e1.trans sl1; clear e1; replace sl2 := e2.trans sl2; clear e2; replace sl3 := e3.trans sl3; clear e3; have hoJ := hb; replace HB := mO HB hb; clear hb; have HoJ := hid hoJ; clear hoJ; have HL5 := HoJ; clear HoJ
 refine nr ?_; intros
 refine P3 ?_
 refine lx [14] ?_; clear sl0 sl1 sl2 sl3 sl8; intro _ sl0 sl1 sl2 sl3 sl8 sl14; refine ln ?_; intros
 refine cond_E sl14 (by decide) ?_ ?_ <;> (clear sl14; intro h14 sl14)
 ·skip
  simp at h14
 ·skip
  refine zx ?_; intros
  clear HL5; clear hc0_0 hc0_1 hc0_2 hc0_3; refine norm_F _ (res_none Tryz.results139) ?_; exact ⟨rfl, hww.out⟩

theorem pdq_nilU (lim : Int) (w : World) :
    Calls Tryz.prog 116 #[.slice none 0 0, .int .i64 0, .int .i64 0, .int .i64 lim, .func (.func 64) #[] #[]] w (fun e w' => e = .returned (.tuple #[]) ∧ w = w') := by
 have hww : w = w := rfl
 have w0 : IntKind.i64.wrap 0 = 0 := by decide
 refine enter_F Tryz.func116 rfl Tryz.ntmps116 (by simp) ?_
 intro s0 hs; have sl0 : s0 0 = .slice none 0 0 := hs 0 (by simp); have sl1 : s0 1 = .int .i64 0 := hs 1 (by simp); have sl2 : s0 2 = .int .i64 0 := hs 2 (by simp); have sl3 : s0 3 = .int .i64 lim := hs 3 (by simp); have sl4 : s0 4 = .func (.func 64) #[] #[] := hs 4 (by simp); clear hs; have HB := hid (OldB.refl [] w)
 refine nr ?_; intros; refine pl ?_; refine lx [10] ?_; clear sl0 sl1 sl2 sl3 sl4; intro _ sl0 sl1 sl2 sl3 sl4 sl10; refine lr ?_; intros; refine pl ?_; refine lx [11] ?_; clear sl0 sl1 sl2 sl3 sl4 sl10; intro s2 sl0 sl1 sl2 sl3 sl4 sl10 sl11; refine ln ?_; intros
 have hc0_0 := hid sl0; have hc0_4 := hid sl4; refine XW38f ?_; clear sl1 sl2 sl3 sl10 sl11; rintro kJ s3 w4 ⟨rfl, sl1, sl2, sl3, sl10, sl11, e0, e4, hb, hww⟩; replace sl0 := e0.trans sl0; clear e0; replace sl4 := e4.trans sl4; clear e4; have hoJ := hb; replace HB := mO HB hb; clear hb; have HoJ := hid hoJ; clear hoJ; have HL6 := HoJ; clear HoJ
 refine nr ?_; intros
 refine P4 ?_
 refine lx [12] ?_; clear sl0 sl1 sl2 sl3 sl4 sl10 sl11; intro _ sl0 sl1 sl2 sl3 sl4 sl10 sl11 sl12; refine lr ?_; intros; refine P2 ?_; refine lx [25] ?_; clear sl0 sl1 sl2 sl3 sl4 sl10 sl11 sl12; intro _ sl0 sl1 sl2 sl3 sl4 sl10 sl11 sl12 sl25; refine ln ?_; intros
 refine cond_t ?_
 refine nr ?_; intros
 refine P4 ?_
 refine cal (ins_nilU _) ?_; rintro e w' ⟨rfl, rfl⟩; refine ⟨_, rfl, ?_⟩; clear sl0 sl1 sl2 sl3 sl4 sl10 sl11 sl12 sl25; refine lx [] ?_; intro _; refine ln ?_; intros
 refine ret_F _ (res_none Tryz.results116) ?_; exact ⟨rfl, hww.out⟩

theorem sort_nilU (w : World) :
    Calls Tryz.prog 97 #[.slice none 0 0, .func (.func 64) #[] #[]] w (fun e w' => e = .returned (.tuple #[]) ∧ w = w') := by
 refine enter_F Tryz.func97 rfl Tryz.ntmps97 (by simp) ?_
 intro s0 hs; have sl0 : s0 0 = .slice none 0 0 := hs 0 (by simp); have sl1 : s0 1 = .func (.func 64) #[] #[] := hs 1 (by simp); clear hs; have HB := hid (OldB.refl [] w)
 refine nr ?_; intros
 refine P3 ?_
 refine lx [4] ?_; clear sl0 sl1; intro _ sl0 sl1 sl4; refine lr ?_; intros
 refine P4 ?_
 refine listF_step rfl (fun K' hK => ?_); unfold opF; go_simp; refine (bitsLen0 _).mono ?_; rintro e w' ⟨rfl, rfl⟩; refine ⟨_, rfl, hK _ _ ?_⟩; clear hK K'; refine pl ?_; refine listF_step rfl (fun K' hK => ?_); unfold opF; go_simp; refine (pdq_nilU _ _).mono ?_; rintro e w' ⟨rfl, rfl⟩; refine ⟨_, rfl, hK _ _ ?_⟩; clear hK K'; clear sl0 sl1 sl4; refine lx [] ?_; intro _; refine ln ?_; intros
 refine norm_F _ (res_none Tryz.results97) ?_; exact ⟨rfl, rfl⟩


abbrev EntS := { x : Ent // EntB x }
abbrev UntS := { x : Unt // UntB x }
instance : Inhabited EntS := ⟨⟨⟨1, 1, 0, ByteArray.empty⟩, by unfold EntB; decide⟩⟩
instance : Inhabited UntS := ⟨⟨⟨1, ByteArray.empty⟩, by unfold UntB; decide⟩⟩
theorem ltE_eq (x y : EntS) : ltOf (fun a b : EntS => cmpE a.1 b.1) x y = soonE x.1 y.1 := (soon_cmp x.1 y.1).symm
theorem cmpS_lt (a b : ByteArray) : cmpS a b < 0 ↔ Op.bytesLess a.toList b.toList = true := by
  unfold cmpS
  by_cases h : Op.bytesLess a.toList b.toList = true
  · simp [h]
  · by_cases h2 : Op.bytesLess b.toList a.toList = true <;> simp [h, h2]
theorem ltU_eq (x y : UntS) : ltOf (fun a b : UntS => cmpU a.1 b.1) x y = uLess x.1 y.1 := by
  show decide (cmpU x.1 y.1 < 0) = _
  rw [Bool.eq_iff_iff, decide_eq_true_eq, uLess_iff]; unfold cmpU orL orL orL
  by_cases h1 : x.1.mach - y.1.mach = 0
  · have e : x.1.mach = y.1.mach := by omega
    rw [if_neg (by simp [h1]), ← cmpS_lt]
    by_cases h2 : cmpS x.1.unit y.1.unit = 0
    · rw [if_neg (by simp [h2]), h2]; constructor <;> intro h <;> omega
    · rw [if_pos h2]; constructor
      · intro h; exact .inr ⟨e, h⟩
      · rintro (h | ⟨_, h⟩); omega; exact h
  · rw [if_pos h1]; constructor
    · intro h; exact .inl (by omega)
    · rintro (h | ⟨h, _⟩) <;> omega
theorem swoE : Go.Sort.SWO (ltOf (fun a b : EntS => cmpE a.1 b.1)) where
  irrefl x := by rw [ltE_eq, Bool.eq_false_iff]; intro h; have := soon_iff.1 h; omega
  trans x y z h1 h2 := by rw [ltE_eq] at *; have a := soon_iff.1 h1; have b := soon_iff.1 h2; exact soon_iff.2 (by omega)
  ntrans x y z h1 h2 := by
    rw [ltE_eq] at *; rw [Bool.eq_false_iff] at *; intro h; have c := soon_iff.1 h
    by_cases a : soonE x.1 y.1 = true
    · exact h1 a
    · by_cases b : soonE y.1 z.1 = true
      · exact h2 b
      · rw [soon_iff] at a b; omega
theorem swoU : Go.Sort.SWO (ltOf (fun a b : UntS => cmpU a.1 b.1)) where
  irrefl x := by
    rw [ltU_eq, Bool.eq_false_iff]; intro h
    rcases uLess_iff.1 h with h | ⟨_, h⟩
    · omega
    · rw [bl_irrefl] at h; cases h
  trans x y z h1 h2 := by
    rw [ltU_eq] at *; rw [uLess_iff] at *
    rcases h1 with h1 | ⟨h1, h1'⟩ <;> rcases h2 with h2 | ⟨h2, h2'⟩
    · exact .inl (by omega)
    · exact .inl (by omega)
    · exact .inl (by omega)
    · exact .inr ⟨by omega, bl_trans h1' h2'⟩
  ntrans x y z h1 h2 := by
    rw [ltU_eq] at *; rw [Bool.eq_false_iff] at *; intro h; rw [ne_eq, uLess_iff] at h1 h2
    rcases uLess_iff.1 h with h | ⟨h, h'⟩
    · by_cases e : x.1.mach < y.1.mach
      · exact h1 (.inl e)
      · exact h2 (.inl (by omega))
    · by_cases e : x.1.mach < y.1.mach
      · exact h1 (.inl e)
      · by_cases e2 : y.1.mach < z.1.mach
        · exact h2 (.inl e2)
        · rcases bl_tri x.1.unit.toList y.1.unit.toList with t | t | t
          · exact h1 (.inr ⟨by omega, t⟩)
          · rw [t] at h'; exact h2 (.inr ⟨by omega, h'⟩)
          · exact h2 (.inr ⟨by omega, bl_trans t h'⟩)
theorem pmap_val {β : Type} {p : β → Prop} : ∀ (l : List β) (h : ∀ x ∈ l, p x), (l.pmap Subtype.mk h).map Subtype.val = l := by
  intro l h; rw [List.map_pmap]; simp
theorem flat_map {β : Type} {p : β → Prop} (f : β → List Value) : ∀ (l : List {x // p x}), l.flatMap (fun x => f x.1) = (l.map Subtype.val).flatMap f
  | [] => rfl
  | x :: l => by rw [List.flatMap_cons, List.map_cons, List.flatMap_cons, flat_map f l]
theorem sortE_any (b cap : Nat) (l : List Ent) (w : World) (hl : ∀ x ∈ l, EntB x) (hC : Cells w b (l.flatMap Ent.cs)) (hsz : l.length ≤ 1000) :
    Calls Tryz.prog 92 #[.slice (some ⟨b, 0, none⟩) l.length cap, .func (.func 59) #[] #[]] w (fun e w' => e = .returned (.tuple #[]) ∧ ∃ m : List Ent, m.Perm l ∧ m.Pairwise (fun x y => soonE y x = false) ∧ Cells w' b (m.flatMap Ent.cs) ∧ OldB [b] w w') := by
  have hC' : Cells w b ((l.pmap Subtype.mk hl).flatMap (fun x : EntS => Ent.cs x.1)) := by rw [flat_map, pmap_val]; exact hC
  have hlen : (l.pmap Subtype.mk hl).length = l.length := by simp
  have := sort_row (β := EntS) sfE_lay 4 (fun w => by kernel_rfl) (fun w => by kernel_rfl) (fun x => Ent.cs x.1) (fun _ => rfl) (fun x => ent_one x.1) (fun a b => cmpE a.1 b.1) swoE 59 #[] (fun _ _ => rfl) (fun x y W => by rw [Array.append_empty]; exact merge2_ex x.1 y.1 x.2 y.2 W) b cap (l.pmap Subtype.mk hl) w hC' (by rw [hlen]; omega); rw [hlen] at this; refine Calls.mono (h := this) ?_; rintro e w' ⟨rfl, m, hp, hs, hc, ho⟩; refine ⟨rfl, m.map Subtype.val, ?_, ?_, by rw [← flat_map]; exact hc, ho⟩
  · have := hp.map Subtype.val; rwa [pmap_val] at this
  · rw [List.pairwise_map]; exact hs.imp (fun h => by rw [ltE_eq] at h; exact h)
theorem sortU_any (b cap : Nat) (l : List Unt) (w : World) (hl : ∀ x ∈ l, UntB x) (hC : Cells w b (l.flatMap Unt.cs)) (hsz : l.length ≤ 1000) :
    Calls Tryz.prog 97 #[.slice (some ⟨b, 0, none⟩) l.length cap, .func (.func 64) #[] #[]] w (fun e w' => e = .returned (.tuple #[]) ∧ ∃ m : List Unt, m.Perm l ∧ m.Pairwise (fun x y => uLess y x = false) ∧ Cells w' b (m.flatMap Unt.cs) ∧ OldB [b] w w') := by
  have hC' : Cells w b ((l.pmap Subtype.mk hl).flatMap (fun x : UntS => Unt.cs x.1)) := by rw [flat_map, pmap_val]; exact hC
  have hlen : (l.pmap Subtype.mk hl).length = l.length := by simp
  have := sort_row (β := UntS) sfU_lay 2 (fun w => by kernel_rfl) (fun w => by kernel_rfl) (fun x => Unt.cs x.1) (fun _ => rfl) (fun x => unt_one x.1) (fun a b => cmpU a.1 b.1) swoU 64 #[] (fun _ _ => rfl) (fun x y W => by rw [Array.append_empty]; exact susp1_ex x.1 y.1 W x.2 y.2) b cap (l.pmap Subtype.mk hl) w hC' (by rw [hlen]; omega); rw [hlen] at this; refine Calls.mono (h := this) ?_; rintro e w' ⟨rfl, m, hp, hs, hc, ho⟩; refine ⟨rfl, m.map Subtype.val, ?_, ?_, by rw [← flat_map]; exact hc, ho⟩
  · have := hp.map Subtype.val; rwa [pmap_val] at this
  · rw [List.pairwise_map]; exact hs.imp (fun h => by rw [ltU_eq] at h; exact h)
end


end Go.Proofs.YtleknidlgmmgbaaGreat
