/- The program: Suspects. -/
import Derived.Test.YtleknidlgmmgbaaGreattsW46
import Derived.Test.YtleknidlgmmgbaaGreattsW43
import Derived.Test.YtleknidlgmmgbaaGreattsCZ
set_option linter.all false
namespace Go.Proofs.YtleknidlgmmgbaaGreat

section
open Go.RowKit

/-- what Suspects answers -/
def susR (l : List Ent) (days many : Int) : List Unt × Int :=
  if mergeErr [l] ≠ 0 then ([], mergeErr [l]) else if inI days 1 40001 = false ∨ inI many 1 60 = false then ([], 7) else (susS l days many.toNat, 0)
theorem merge_zero {fs : List (List Ent)} (h : mergeErr fs = 0) : NoConf fs.flatten ∧ ∀ f ∈ fs, fileErr f = 0 := by
  unfold mergeErr at h
  split at h
  · cases h
  · split at h
    · rename_i h1; exact absurd h h1
    · rename_i h1
      split at h
      · rename_i h2
        refine ⟨h2, fun f hf => ?_⟩
        have h3 : filesErr fs = 0 := Decidable.not_not.1 h1
        unfold filesErr at h3
        cases hx : fs.find? (fun f => fileErr f != 0) with
        | none => have := List.find?_eq_none.1 hx f hf; simpa using this
        | some y => rw [hx] at h3; have := List.find?_some hx; simp at h3 this; exact absurd h3 this
      · cases h
theorem merge_one {l : List Ent} (h : mergeErr [l] = 0) : mergeR [l] = (mergeS l, 0) ∧ NoConf l ∧ l.length ≤ 60 ∧ ∀ x ∈ l, entErr x = 0 := by
  obtain ⟨h1, h2⟩ := merge_zero h
  have e : [l].flatten = l := by simp
  rw [e] at h1
  refine ⟨?_, h1, file_all (h2 l (by simp))⟩
  unfold mergeR; rw [h, if_neg (by decide), e]
theorem sus_bad {l : List Ent} {days many e : Int} (h : mergeErr [l] = e) (he : e ≠ 0) : susR l days many = ([], e) := by unfold susR; rw [h, if_pos he]
theorem sus_bad2 {l : List Ent} {days many : Int} (h : mergeErr [l] = 0) (he : inI days 1 40001 = false ∨ inI many 1 60 = false) : susR l days many = ([], 7) := by unfold susR; rw [h, if_neg (by decide), if_pos he]
theorem sus_ok {l : List Ent} {days : Int} {many : Nat} (h : mergeErr [l] = 0) (h1 : inI days 1 40001 = true) (h2 : inI (many : Int) 1 60 = true) : susR l days many = (susS l days many, 0) := by
  unfold susR; rw [h, if_neg (by decide), if_neg (by simp [h1, h2]), Int.toNat_natCast]
/-- the units that the program collects, sorted and each once -/
theorem units_set {l : List Ent} {days : Int} {many : Nat} (hc : NoConf l) (hm : 1 ≤ many) : setL uLess (pU (mergeS l) days many (mergeS l).length) = susS l days many := by
  unfold susS
  refine setL_same totU (fun _ _ => trivial) (fun u => ?_)
  rw [units_mem hc hm u]
  exact (setL_ok totU (fun _ _ => trivial)).2 u
theorem sorted_units {l : List Ent} {days : Int} {many : Nat} (hc : NoConf l) (hm : 1 ≤ many) {m : List Unt} (hp : m.Perm (pU (mergeS l) days many (mergeS l).length)) (hs : m.Pairwise (fun x y => uLess y x = false)) : compL m = susS l days many := by
  rw [comp_set totU (fun _ _ => trivial) hs (fun x => hp.mem_iff.symm), units_set hc hm]
end

section
open Go.RowKit


theorem ent_day {x : Ent} (h : entErr x = 0) : 0 ≤ x.day ∧ x.day ≤ 40000 := (entB_of h).2.2
theorem days_len (l : List Ent) (u : Unt) : (daysOf l u).length ≤ l.length := by unfold daysOf; rw [List.length_map]; exact List.length_filter_le _ _
theorem pU_len {l : List Ent} {days : Int} {many : Nat} : ∀ n, (pU l days many n).length ≤ n
  | 0 => by simp [pU]
  | n + 1 => by
    have := pU_len (l := l) (days := days) (many := many) n; unfold pU; split
    · rw [List.length_append, List.length_singleton]; omega
    · omega
theorem pU_unt {l : List Ent} {days : Int} {many n : Nat} (hl : ∀ x ∈ l, entErr x = 0) (hn : n ≤ l.length) : ∀ u ∈ pU l days many n, UntB u := fun u hu => by
  obtain ⟨j, hj, rfl, _⟩ := pU_mem.1 hu; have h1 := hl (l.getD j default) (by rw [getDE (by omega)]; exact List.getElem_mem _); have := (entB_of h1).2.1; exact this
theorem pC_eq {l : List Ent} {days : Int} {many i : Nat} (hi : i < l.length) {y : Ent} (hy : l[i] = y) {D : List Int} (hD : daysOf (l.take i) y.u ++ [y.day] = D) : pC l days many i = (decide (many ≤ D.length) && decide (y.day - D.getD (D.length - many) 0 < days)) := by
  unfold pC
  have e : l.getD i default = y := by rw [getDE hi, hy]
  rw [e, List.take_succ_eq_append_getElem hi, hy, days_snoc, if_pos rfl, hD]
theorem pU_yes {l : List Ent} {days : Int} {many i : Nat} (hi : i < l.length) {y : Ent} (hy : l[i] = y) (h : pC l days many i = true) : pU l days many (i + 1) = pU l days many i ++ [y.u] := by
  show (if pC l days many i = true then pU l days many i ++ [(l.getD i default).u] else pU l days many i) = _
  rw [if_pos h, getDE hi, hy]
theorem pU_no {l : List Ent} {days : Int} {many i : Nat} (h : pC l days many i = false) : pU l days many (i + 1) = pU l days many i := by
  show (if pC l days many i = true then pU l days many i ++ [(l.getD i default).u] else pU l days many i) = _
  rw [if_neg (by rw [h]; decide)]
theorem merge_err {l : List Ent} {ML : List Ent} {e : Int} (h : mergeR [l] = (ML, e)) : mergeErr [l] = e ∧ (e ≠ 0 → ML = []) := by
  unfold mergeR at h
  split at h
  · rename_i h1; cases h; exact ⟨rfl, fun _ => rfl⟩
  · rename_i h1; cases h; exact ⟨Decidable.not_not.1 h1, fun h => absurd rfl h⟩
theorem KU : Maps.Keyed Tryz.prog 69 := Maps.Keyed.of_law untLaw
theorem zeroIn (w : World) : (zeroValue 22).run Tryz.prog w = .ok nilS w := by kernel_rfl
theorem UOwn.grown {w w' : World} {NB : Nat} {l : List Ent} {g : Unt → Option Value} (h : UOwn w NB l g) {v : Value} (hg : w.grownBy w' v.ownBlock) (ha : ∀ u, Apart ((g u).getD nilS) v) : UOwn w' NB l g := ⟨fun u => Own.grown (h.own u) hg (ha u), h.ap⟩
theorem EntryAt.grown {b n st : Nat} {g : Unt → Option Value} {x : Unt} {w w' : World} {v : Value} (h : EntryAt Tryz.prog 69 111 kvU b n g x st w) (hg : w.grownBy w' v.ownBlock) (hl : b < w.heap.size) (hv : v.ownBlock ≠ some b) : EntryAt Tryz.prog 69 111 kvU b n g x st w' := h.same (hg.block b hl (fun e => hv e.symm))
theorem apart_put {vU v50 : Value} {g : Unt → Option Value} {x : Unt} (h : ∀ u, Apart vU ((g u).getD nilS)) (h2 : Apart vU v50) : ∀ u, Apart vU (((fun z => if z = x then some v50 else g z) u).getD nilS) := fun u => by
  by_cases e : u = x
  · simp only [if_pos e, Option.getD_some]; exact h2
  · simp only [if_neg e]; exact h u

theorem XW48b {A : Prop} (e : A := by exact (fun g hg => by have n0 := (World.ownsRow.lt hU g hg).1; have nb11 := nhU_b11 g hg; have nb12 := nhU_b12 g hg; have nb48 := nhU_b48 g hg; first | (simp; done) | (simp; omega))) : A := e
theorem XW48c {A : Prop} (e : A := by exact (fun b hb => by have := H8.out b hb hMne; first | (simp; done) | (simp; omega))) : A := e
theorem XW48d {A : Prop} (e : A := by exact (fun u x hx => by have n1 := UOwn.lt hUO u x hx; have n2 := Hob.out u x hx; first | (simp; done) | (simp; omega))) : A := e
theorem XW48e {A B1 B2 : Prop} (hX1 : B1) (hX2 : B2) (e : B1 → B2 → A := by intro hX1 hX2; exact walkR_no (b' := false) (by rfl) (by rfl) (by decide) (fun X hX => hX1) (by rfl) hX2) : A := e hX1 hX2
theorem XW48f {A B1 : Prop} (hX1 : B1) (e : B1 → A := by exact ret_F _ (res_tt Tryz.results22 ((getD_F (by decide)).trans sl6) ((getD_F (by decide)).trans sl7))) : A := e hX1
theorem XW48g {A : Prop} (e : A := by exact ⟨none, 0, rfl, (Or.inl rfl : RdUn _ _ _), (fun b hb => by cases hb), HB.out.toBelow⟩) : A := e
set_option maxRecDepth 100000 in
set_option maxHeartbeats 32000000 in
theorem suspects_v (a : Option Addr) (c : Nat) (l : List Ent) (days many : Int) (R : List Unt) (er : Int) (w : World) (hR : RdEn w a l) (hl : l.length ≤ 9223372036854775807) (hun : ∀ y ∈ l, y.unit.size ≤ 9223372036854775807) (hr : susR l days many = (R, er)) :
    Calls Tryz.prog 22 #[.slice a l.length c, .int .i64 days, .int .i64 many] w (fun e w' => ∃ a' c', e = .returned (.tuple #[.slice a' R.length c', .int .i64 er]) ∧ RdUn w' a' R ∧ (∀ b, a' = some b → w.heap.size ≤ b.block) ∧ Below w.heap.size w w') := by
 have HR := hid hR; have Hr := hid hr; clear hR hr; have Hun := hid hun; clear hun; obtain ⟨i0, hi0, hz0, hy0, hx0⟩ := info_parts info_int; obtain ⟨iU, hiU, hzU, hyU, hxU⟩ := info_parts info_unt; obtain ⟨⟨ML, me⟩, hM⟩ : ∃ z, mergeR [l] = z := ⟨_, rfl⟩; have HM := hid hM; have Hme := hid (merge_err hM); clear hM
 refine enter_F Tryz.func22 rfl Tryz.ntmps22 (by simp) ?_
 intro s0 hs; have sl0 : s0 0 = .slice a l.length c := hs 0 (by simp); have sl1 : s0 1 = .int .i64 days := hs 1 (by simp); have sl2 : s0 2 = .int .i64 many := hs 2 (by simp); clear hs; have HB := hid (OldB.refl [] w)
 refine nr ?_; intros; refine P2 ?_; refine lx [6] ?_; clear sl0 sl1 sl2; intro s1 sl0 sl1 sl2 sl6; refine lr ?_; intros; refine pl ?_; refine pas (fun w2 B16 hB kb16 hb3 => ?_); have gb16 := HB.out.gB hB; have eb16 := eB hB; clear hB; replace HB := bE HB hb3; clear hb3; have qb16 := kb16.1; refine cal (merge_v (some ⟨B16, 0, none⟩) 1 [⟨a, c, l⟩] ML me _ (Cells.rd (f := SlE.cs) (m := 1) (l := [⟨a, c, l⟩]) (fun _ => rfl) kb16) (fun x hx => by simp at hx; subst hx; exact Rd.oldB HR.out HB.out (by simp)) (by simp) (fun x hx => by simp at hx; subst hx; exact hl) (fun x hx y hy => by simp at hx; subst hx; exact Hun.out y hy) HM.out) ?_; rintro e w4 ⟨a8, c8, rfl, hr8, hf8, hb5⟩; have H8' := hid (show ∀ b, a8 = some b → ML ≠ [] → b.block < w4.heap.size from fun b hb hM => by rcases hr8 with h | ⟨b1, o1, h1, h2, _⟩; exact absurd h hM; rw [h1] at hb; cases hb; exact h2); clear hf8; refine ⟨_, rfl, ?_⟩
 clear qb16; revert HB; revert kb16; refine uA hb5 ?_; clear hb5; intro kb16 qb16 HB
 refine P5 ?_
 clear sl0; refine lx [7,8] ?_; clear sl1 sl2 sl6; intro s6 sl1 sl2 sl6 sl7 sl8; refine ln ?_; intros
 by_cases hme : me = 0
 ·skip
  obtain ⟨e1, hnc, hl60, hE0⟩ := merge_one (Hme.out.1.trans hme); have HML := hid (show ML = mergeS l by have := HM.out.symm.trans e1; cases this; rfl); have HnC := hid hnc; have HE := hid (show ∀ x ∈ ML, entErr x = 0 from fun x hx => hE0 x ((merge_mem hnc x).1 (by rw [← HML.out]; exact hx)))
  have hML : ML.length ≤ 60 := by rw [HML.out]; exact Nat.le_trans (merge_len l) hl60
  have HunM := hid (show ∀ x ∈ ML, x.unit.size ≤ 9223372036854775807 from fun x hx => Hun.out x ((merge_mem hnc x).1 (by rw [← HML.out]; exact hx))); subst hme; clear e1 hnc hE0 hl60; refine region_F ?_
  refine P3 ?_
  refine lx [20] ?_; clear sl1 sl2 sl6 sl7 sl8; intro s7 sl1 sl2 sl6 sl7 sl8 sl20; refine ln ?_; intros
  refine cond_f ?_
  refine zx ?_; intros
  rcases Bool.eq_false_or_eq_true (inI days 1 40001) with hd1 | hd1 <;> rcases Bool.eq_false_or_eq_true (inI many 1 60) with hd2 | hd2
  ·skip
   have hd3 := (inI_iff _ _ _).1 hd1; have hd4 := (inI_iff _ _ _).1 hd2; obtain ⟨m, rfl⟩ : ∃ m : Nat, many = m := ⟨many.toNat, by omega⟩; have e9 := Hr.out.symm.trans (sus_ok Hme.out.1 hd1 hd2)
   obtain ⟨hR9, rfl⟩ : R = susS l days m ∧ er = 0 := by simpa using e9
   have HRs := hid hR9; clear hR9 e9; refine region_F ?_; refine pl ?_; refine cal (tout_any days 1 40001 _) ?_; rintro e w' ⟨rfl, rfl⟩; refine ⟨_, rfl, ?_⟩; refine pl ?_; refine py ?_; refine listF_yes rfl rfl (by decide) ?_ (fun K' hK => ?_); (focus (go_simp; done)); unfold opF; go_simp; refine (tout_any (m : Int) 1 60 _).mono ?_; rintro e w' ⟨rfl, rfl⟩; refine ⟨_, rfl, hK _ _ ?_⟩; clear hK K'; refine P2 ?_; clear sl7 sl20; refine lx [24] ?_; clear sl1 sl2 sl6 sl8; intro s10 sl1 sl2 sl6 sl8 sl24; refine ln ?_; intros
   refine cond_f ?_
   refine nr ?_; intros; obtain ⟨bm, hbm⟩ : ∃ b, b = w4.heap.size := ⟨_, rfl⟩; have gbm := HB.out.gB hbm; have ob16_bm := oB qb16 hbm; have H8 := hid (show ∀ b, a8 = some b → ML ≠ [] → b.block < bm from fun b hb hM => by rcases hr8 with h | ⟨b1, o1, h1, h2, _⟩; exact absurd h hM; rw [h1] at hb; cases hb; show b1 < bm; omega); clear H8'; refine listF_step rfl (fun K' hK => ?_); refine opF_makeMap (d := 31) (T := 111) (kt := 69) (kv := kvU) rfl (by decide) rfl (fun w11 hmp hb12 => hK _ _ ?_); clear hK K'; rw [← hbm] at hmp
   (try rw [← hbm])
   have lbm := hmp.lt; clear hbm; clear qb16; replace hr8 := Rd.at hr8 hb12; revert HB; revert kb16; refine uA hb12 ?_; clear hb12; intro kb16 qb16 HB; refine pl ?_; clear sl24; refine lx [9] ?_; clear sl1 sl2 sl6 sl8; intro s13 sl1 sl2 sl6 sl8 sl9; refine lr ?_; intros; refine P2 ?_; obtain ⟨NB, hNB⟩ : ∃ n, n = w11.heap.size := ⟨_, rfl⟩; have gNB := HB.out.gB hNB
   have obB : bm < NB := by have := hmp.lt; omega
   have hNBw0 : NB ≤ w11.heap.size := by omega
   clear hNB; refine pl ?_; clear sl8; refine lx [32,33,34] ?_; clear sl1 sl2 sl6 sl9; intro s14 sl1 sl2 sl6 sl9 sl32 sl33 sl34; refine ln ?_; intros
   clear qb16; have hc0_1 := hid sl1; have hc0_2 := hid sl2; have hc0_9 := hid sl9; have hc0_32 := hid sl32; have hc0_33 := hid sl33; refine loop_F (n := 80) (fun kJ sJ wJ => ∃ (i : Nat) (g : Unt → Option Value) (vU : Value), kJ = ML.length - i ∧ sJ 6 = vU ∧ sJ 34 = .int .i64 (i : Int) ∧ sJ 1 = s14 1 ∧ sJ 2 = s14 2 ∧ sJ 9 = s14 9 ∧ sJ 32 = s14 32 ∧ sJ 33 = s14 33 ∧ OldB [] w wJ ∧ i ≤ ML.length ∧ NB ≤ wJ.heap.size ∧ RdEn wJ a8 ML ∧ MapV Tryz.prog 69 kvU wJ bm i g ∧ UOwn wJ NB (ML.take i) g ∧ Own Unt.cs 2 69 NB wJ vU (pU ML days m i) ∧ Hid (∀ u, Apart vU ((g u).getD nilS))) ⟨0, (fun _ => none), (.slice none 0 0), rfl, (by first | exact sl6 | (rw [sl6]; go_num) | (rw [sl6]; rfl)), (by first | exact sl34 | (rw [sl34]; go_num) | (rw [sl34]; rfl)), rfl, rfl, rfl, rfl, rfl, HB.out, Nat.zero_le _, hNBw0, hr8, hmp, UOwn.start _ _, Own.nil _ _ _ _ _, hid (fun u k hk => by simp [Value.ownBlock] at hk)⟩ ?_
   clear sl6 sl34 kb16 hr8 hmp HB; rintro kJ s15 w16 ⟨i, g, vU, rfl, sl6, sl34, e1, e2, e9, e32, e33, HB', hil, hNBx, hr8, hmp, hUO, hU, hapU⟩; replace sl1 := e1.trans sl1; clear e1; replace sl2 := e2.trans sl2; clear e2; replace sl9 := e9.trans sl9; clear e9; replace sl32 := e32.trans sl32; clear e32; replace sl33 := e33.trans sl33; clear e33; have HB := hid HB'; clear HB'; have lbm := hmp.lt; have Hob := hid (show ∀ u x, ((g u).getD nilS).ownBlock = some x → x < w16.heap.size from fun u x hx => (UOwn.lt hUO u x hx).2)
   refine nr ?_; intros; refine pl ?_; refine lx [35] ?_; clear sl1 sl2 sl6 sl9 sl32 sl33 sl34; intro s17 sl1 sl2 sl6 sl9 sl32 sl33 sl34 sl35; refine ln ?_; intros
   refine cond_E sl35 (by decide) ?_ ?_ <;> (clear sl35; intro h35 sl35)
   ·skip
    have hk : i < ML.length := by simpa using h35
    have hMne : ML ≠ [] := fun h => by rw [h] at hk; simp at hk
    have hkk0 : (i : Int) < ML.length := by omega
    obtain ⟨by1, oy1, hay, hby, c0, c1, c2, c3⟩ := RdEn.ne hr8 hk; obtain ⟨y, hy⟩ : ∃ y, ML[i] = y := ⟨_, rfl⟩; rw [hy] at c0 c1 c2 c3; have Hy := hid hy; have Htk := hid (show ML.take (i + 1) = ML.take i ++ [y] by rw [List.take_succ_eq_append_getElem hk, hy]); have hyE := HE.out y (by rw [← hy]; exact List.getElem_mem hk); have HyB := hid (entB_of hyE); have HyD := hid (ent_day hyE); have hyd := HyD.out; have hyu := HunM.out y (by rw [← hy]; exact List.getElem_mem hk); have HdB := hid (show ∀ D, daysOf (ML.take i) y.u ++ [y.day] = D → ∀ d ∈ D, 0 ≤ d ∧ d ≤ 40000 from fun D hD d hd => by rw [← hD, List.mem_append, List.mem_singleton] at hd; rcases hd with hd | rfl; obtain ⟨z, hz, _, rfl⟩ := days_mem hd; exact ent_day (HE.out z (List.mem_of_mem_take hz)); exact hyd); have Hay := hid hay; clear hay hy hyE; rw [Hay.out] at sl32; obtain ⟨kl, hky⟩ := keyU (u := y.u) (wf_of (by have := HyB.out.2.1; show _ ≤ y.mach; omega) (by have := HyB.out.2.1; show y.mach ≤ _; omega)) hyu
    have HL9 := hid (OldB.refl [] w16)
    refine nr ?_; intros; refine P2 ?_; refine pa (fun w18 B11 hB kb11 hb19 => ?_); have gb11 := HB.out.gB hB; have lHL9_b11 := HL9.out.gB hB
    have nhU_b11 : ∀ g, vU.ownBlock = some g → g < B11 := fun g hg => by have := (World.ownsRow.lt hU g hg).2; omega
    have eb11 := eB hB; clear hB; replace hr8 := Rd.at hr8 hb19; replace hmp := MapV.at hmp hb19; replace hUO := UOwn.at hUO hb19; replace hU := Own.at hU hb19; revert HB; revert HL9; refine zA hb19 ?_; clear hb19; intro HL9 HB; have qb11 := kb11.1; have cb11 := clx kb11; have zb11 := kb11.2.2; refine pl ?_; refine sto kb11 ?_; clear kb11 cb11 zb11; intro w20 kb11 hb21; clear qb11; replace hr8 := Rd.oldB hr8 hb21 XW48c; replace hmp := MapV.oldB hmp hb21 (by first | (simp; done) | (simp; omega)); replace hUO := UOwn.oldB hUO hb21 XW48d; replace hU := Own.oldB hU hb21 (fun g hg => by have n0 := (World.ownsRow.lt hU g hg).1; have nb11 := nhU_b11 g hg; first | (simp; done) | (simp; omega)); revert HB; revert HL9; refine zO hb21 ?_; clear hb21; intro HL9 HB; have qb11 := kb11.1; clear sl35; refine lx [11] ?_; clear sl1 sl2 sl6 sl9 sl32 sl33 sl34; intro s22 sl1 sl2 sl6 sl9 sl32 sl33 sl34 sl11; refine lr ?_; intros; refine pl ?_; have cb11 := clx kb11
    refine P4 ?_
    refine pa (fun w23 B12 hB kb12 hb24 => ?_); have gb12 := HB.out.gB hB; have lHL9_b12 := HL9.out.gB hB; have ob11_b12 := oB qb11 hB
    have nhU_b12 : ∀ g, vU.ownBlock = some g → g < B12 := fun g hg => by have := (World.ownsRow.lt hU g hg).2; omega
    have eb12 := eB hB; clear hB; clear cb11; clear qb11; replace hr8 := Rd.at hr8 hb24; replace hmp := MapV.at hmp hb24; replace hUO := UOwn.at hUO hb24; replace hU := Own.at hU hb24; revert HB; revert HL9; revert kb11; refine uA hb24 ?_; clear hb24; intro kb11 qb11 HL9 HB; have qb12 := kb12.1; have cb12 := clx kb12; have zb12 := kb12.2.2; refine pl ?_; refine sto kb12 ?_; clear kb12 cb12 zb12; intro w25 kb12 hb26; clear qb11 qb12; replace hr8 := Rd.oldB hr8 hb26 XW48c; replace hmp := MapV.oldB hmp hb26 (by first | (simp; done) | (simp; omega)); replace hUO := UOwn.oldB hUO hb26 XW48d; replace hU := Own.oldB hU hb26 (fun g hg => by have n0 := (World.ownsRow.lt hU g hg).1; have nb11 := nhU_b11 g hg; have nb12 := nhU_b12 g hg; first | (simp; done) | (simp; omega)); revert HB; revert HL9; revert kb11; refine uO hb26 ?_; clear hb26; intro kb11 qb11 HL9 HB; have qb12 := kb12.1; refine lx [12] ?_; clear sl1 sl2 sl6 sl9 sl11 sl32 sl33 sl34; intro s27 sl1 sl2 sl6 sl9 sl11 sl32 sl33 sl34 sl12; refine lr ?_; intros; refine pl ?_; have cb12 := clx kb12; refine P2 ?_; have cb11 := clx kb11; refine pl ?_; refine pas (fun w28 B48 hB kb48 hb29 => ?_); have gb48 := HB.out.gB hB; have lHL9_b48 := HL9.out.gB hB; have ob11_b48 := oB qb11 hB; have ob12_b48 := oB qb12 hB
    have nhU_b48 : ∀ g, vU.ownBlock = some g → g < B48 := fun g hg => by have := (World.ownsRow.lt hU g hg).2; omega
    have eb48 := eB hB; clear hB; clear cb11 cb12; clear qb11 qb12; replace hr8 := Rd.at hr8 hb29; replace hmp := MapV.at hmp hb29; replace hUO := UOwn.at hUO hb29; replace hU := Own.at hU hb29; revert HB; revert HL9; revert kb12; revert kb11; refine uA hb29 ?_; clear hb29; intro kb11 qb11 kb12 qb12 HL9 HB; have qb48 := kb48.1; clear HL9; obtain ⟨v0, hv0⟩ : ∃ v, v = (g y.u).getD nilS := ⟨_, rfl⟩; have hP0 := hUO.own y.u; rw [← hv0] at hP0; have Hv0 := hid hv0; refine listF_step rfl (fun K' hK => ?_); refine opF_entry (d := 49) (T := 111) (kt := 69) (E := 22) (kv := kvU) rfl (by decide) (.tmp 43) (.tmp 44) rfl untLaw Tryz.underlying111 hmp (by omega) kvU_inj zeroIn y.u (by go_simp) (by first | (go_simp; done) | (go_simp; rfl) | rfl) hky (fun st1 w30 hlt1 hb31 hEA => hK _ _ ?_)
    clear hK K'; rw [← hv0]; clear hv0 hmp; have hOE := hb31; clear qb11 qb12 qb48; replace hr8 := Rd.oldB hr8 hb31 XW48c; replace hUO := UOwn.oldB hUO hb31 XW48d; replace hU := Own.oldB hU hb31 XW48b; revert HB; revert kb48; revert kb12; revert kb11; refine uO hb31 ?_; clear hb31; intro kb11 qb11 kb12 qb12 kb48 qb48 HB; refine pl ?_; replace hP0 := Own.oldB hP0 hOE (fun x hx => by have := (World.ownsRow.lt hP0 x hx).1; simp; omega)
    clear hOE
    have aB11 : v0.ownBlock ≠ some B11 := fun e => by rw [Hv0.out] at e; have := Hob.out _ _ e; omega
    have aB12 : v0.ownBlock ≠ some B12 := fun e => by rw [Hv0.out] at e; have := Hob.out _ _ e; omega
    have aB48 : v0.ownBlock ≠ some B48 := fun e => by rw [Hv0.out] at e; have := Hob.out _ _ e; omega
    have abm : v0.ownBlock ≠ some bm := fun e => by have := (World.ownsRow.lt hP0 _ e).1; omega
    have hdl := days_len (ML.take i) y.u
    have hdl2 : (ML.take i).length ≤ 60 := by rw [List.length_take]; omega
    have hzz := HB.out.size; refine listF_step rfl (fun K' hK => ?_); refine opF_app (d := 50) rfl (by decide) (.tmp 45) (.tmp 48) _ rfl 3 i0 _ 8 Tryz.underlying22 hi0 hz0 hy0 hx0 rfl (by decide) (fun _ => rfl) int_one NB v0 (daysOf (ML.take i) y.u) [y.day] (some ⟨B48, 0, none⟩) 1 (by go_simp) (by go_simp) hP0 (Cells.rd (f := int1) (m := 1) (l := [y.day]) (fun _ => rfl) kb48) (by unfold maxLen; simp; omega) (by simp; omega) (by omega) (fun v50 w32 hO5 hG5 hV5 => hK _ _ ?_); clear hK K' hzz; have apv : Apart vU v50 := Apart.app hU (by rw [Hv0.out]; exact hapU.out y.u) hV5; replace hU := Own.grown hU hG5 (by rw [Hv0.out]; exact hapU.out y.u); replace hEA := EntryAt.grown hEA hG5 hlt1 abm; replace hr8 := Rd.grown hr8 hG5 (fun _ b hb e => by have n1 := H8.out b hb hMne; have n2 := (World.ownsRow.lt hP0 _ e).1; omega); replace kb11 := kb11.grown hG5 aB11; replace kb12 := kb12.grown hG5 aB12; replace kb48 := kb48.grown hG5 aB48
    replace HB := hid (HB.out.grown hG5 (fun k hk => .inl (by have := (World.ownsRow.lt hP0 k hk).1; omega))); have hUO2 := UOwn.put hUO Hv0.out hG5 hO5 hV5; have hap2 := hid (apart_put (x := y.u) hapU.out apv); have lbm : bm < w32.heap.size := Nat.lt_of_lt_of_le hlt1 hG5.size
    have hNBw : NB ≤ w32.heap.size := by have := kb48.1; omega
    obtain ⟨D, hD⟩ : ∃ D, daysOf (ML.take i) y.u ++ [y.day] = D := ⟨_, rfl⟩; rw [hD] at hO5; obtain ⟨a5, c5, hv5, hr5, hn5⟩ := Own.slice (f := int1) (m := 1) (fun _ => rfl) hO5; have Hv5 := hid hv5; have HD := hid hD
    have hDl : D.length ≤ 61 ∧ 1 ≤ D.length := by rw [← hD]; simp; omega
    clear hUO hP0 hG5 hV5 aB11 aB12 aB48 abm apv hapU hO5 hv5 hD hdl hdl2 Hob Hv0; clear qb11 qb12 qb48; have qb11 := kb11.1; have qb12 := kb12.1; have qb48 := kb48.1; replace HdB := hid (HdB.out D HD.out); refine pl ?_; refine listF_step rfl (fun K' hK => ?_); refine opF_entryStore (.tmp 43) (.tmp 51) (.tmp 50) rfl hEA (by go_simp) (by go_simp) (fun w34 hm2 hb35 => hK _ _ ?_); clear hK K'
    have hm3 : MapV Tryz.prog 69 kvU w34 bm (i + 1) (fun z => if z = y.u then some v50 else g z) := by simpa using hm2
    clear hm2 hEA; clear qb11 qb12 qb48; replace hr5 := Rd.oldB hr5 hb35 (fun b hb => by have := hn5 b hb; first | (simp; done) | (simp; omega)); replace hr8 := Rd.oldB hr8 hb35 XW48c; replace hUO2 := UOwn.oldB hUO2 hb35 (fun u x hx => by have n1 := UOwn.lt hUO2 u x hx; first | (simp; done) | (simp; omega)); replace hU := Own.oldB hU hb35 XW48b; revert HB; revert kb48; revert kb12; revert kb11; refine uO hb35 ?_; clear hb35; intro kb11 qb11 kb12 qb12 kb48 qb48 HB
    refine lx [] ?_; clear sl1 sl2 sl6 sl9 sl11 sl12 sl32 sl33 sl34; intro s36 sl1 sl2 sl6 sl9 sl11 sl12 sl32 sl33 sl34; refine lr ?_; intros; refine pl ?_; have cb12 := clx kb12; refine pl ?_; refine listF_step rfl (fun K' hK => ?_); refine opF_look (d := 54) rfl (by decide) (.tmp 52) (.tmp 53) false rfl KU Tryz.underlying111 (zeroIn _) hm3 y.u (by go_simp) (by first | (go_simp; done) | (go_simp; rfl) | rfl) hky ?_
    simp only [Bool.false_eq_true, if_false, if_true, Option.getD_some]
    refine hK _ _ ?_; clear hK K'; refine pl ?_; refine lx [13] ?_; clear sl1 sl2 sl6 sl9 sl11 sl12 sl32 sl33 sl34; intro s39 sl1 sl2 sl6 sl9 sl11 sl12 sl32 sl33 sl34 sl13; refine ln ?_; intros
    by_cases hge : m ≤ D.length
    ·skip
     have hkk : D.length - m < D.length := by omega
     obtain ⟨b5, o5, hae5, hbs5, d0⟩ := RdInts.ne hr5 hkk; have Hae5 := hid hae5; clear hae5; rw [Hv5.out, Hae5.out] at sl13; obtain ⟨kk, hkD⟩ : ∃ z, D.length - m = z := ⟨_, rfl⟩; obtain ⟨dd, hdd⟩ : ∃ z, D[D.length - m] = z := ⟨_, rfl⟩; rw [hdd] at d0; rw [hkD] at d0 hkk
     have hge2 : (m : Int) ≤ (D.length : Int) := by omega
     have wD : IntKind.i64.wrap ((D.length : Int) - (m : Int)) = (kk : Int) := by rw [IntWalk.i64_in _ (by omega)]; omega
     have hdb : 0 ≤ dd ∧ dd ≤ 40000 := HdB.out dd (by rw [← hdd]; exact List.getElem_mem _); have wQ : IntKind.i64.wrap (y.day - dd) = y.day - dd := IntWalk.i64_in _ (by omega); have HpC := hid (show pC ML days m i = decide (y.day - dd < days) by rw [pC_eq hk Hy.out HD.out, decide_eq_true hge, Bool.true_and, List.getD_eq_getElem?_getD, List.getElem?_eq_getElem (by omega), hdd]; rfl); clear hdd hkD
     have hkz : (0 : Int) ≤ (kk : Int) := by omega
     have hkz2 : (kk : Int) < (D.length : Int) := by omega
     have cb11 := clx kb11; have cb48_0 := kb48.cell 0 rfl; refine rgQ 18 [?_,?_,?_,?_,?_,?_,?_,?_,?_,?_,?_,?_,?_,?_,?_,?_,?_,?_] ?walk34 ?dep34
     case walk34 =>
      iterate 5 refine rq ?_
      iterate 12 refine rqy ?_
      refine rq ?_; refine walkR_nil (fun X hX w40 hwz hcz => ?_); clear hX hcz
      (try clear X)
      skip; have hb41 := hwz.unDrew; clear hwz; clear cb11 cb12 cb48_0; clear qb11 qb12 qb48; replace hr5 := Rd.oldB hr5 hb41 (fun b hb => by have := hn5 b hb; first | (simp; done) | (simp; omega)); replace hr8 := Rd.oldB hr8 hb41 XW48c; replace hUO2 := UOwn.oldB hUO2 hb41 (fun u x hx => by have n1 := UOwn.lt hUO2 u x hx; first | (simp; done) | (simp; omega)); replace hm3 := MapV.oldB hm3 hb41 (by first | (simp; done) | (simp; omega)); replace hU := Own.oldB hU hb41 XW48b; revert HB; revert kb48; revert kb12; revert kb11; refine uO hb41 ?_; clear hb41; intro kb11 qb11 kb12 qb12 kb48 qb48 HB; clear sl11 sl13; refine lx [60,61,62,63,64,65,66,67,68,69,70,71,72] ?_; clear sl1 sl2 sl6 sl9 sl12 sl32 sl33 sl34; intro s42 sl1 sl2 sl6 sl9 sl12 sl32 sl33 sl34 sl60 sl61 sl62 sl63 sl64 sl65 sl66 sl67 sl68 sl69 sl70 sl71 sl72; refine ln ?_; intros
      refine cond_E sl72 (by decide) ?_ ?_ <;> (clear sl72; intro h72 sl72)
      ·skip
       have HpU := hid (pU_yes hk Hy.out (HpC.out.trans (by simpa using h72)))
       refine nr ?_; intros; refine pl ?_; have cb12 := clx kb12; refine pl ?_; refine pas (fun w43 B75 hB kb75 hb44 => ?_); have gb75 := HB.out.gB hB; have ob11_b75 := oB qb11 hB; have ob12_b75 := oB qb12 hB; have ob48_b75 := oB qb48 hB
       have nhU_b75 : ∀ g, vU.ownBlock = some g → g < B75 := fun g hg => by have := (World.ownsRow.lt hU g hg).2; omega
       have eb75 := eB hB; clear hB; clear cb12; clear qb11 qb12 qb48; replace hr5 := Rd.at hr5 hb44; replace hr8 := Rd.at hr8 hb44; replace hUO2 := UOwn.at hUO2 hb44; replace hm3 := MapV.at hm3 hb44; replace hU := Own.at hU hb44; revert HB; revert kb48; revert kb12; revert kb11; refine uA hb44 ?_; clear hb44; intro kb11 qb11 kb12 qb12 kb48 qb48 HB; have qb75 := kb75.1; have hpl := pU_len (l := ML) (days := days) (many := m) i
       have ab11 : vU.ownBlock ≠ some B11 := fun e => by have n0 := (World.ownsRow.lt hU B11 e).1; have n9 := nhU_b11 B11 e; omega
       have ab12 : vU.ownBlock ≠ some B12 := fun e => by have n0 := (World.ownsRow.lt hU B12 e).1; have n9 := nhU_b12 B12 e; omega
       have ab48 : vU.ownBlock ≠ some B48 := fun e => by have n0 := (World.ownsRow.lt hU B48 e).1; have n9 := nhU_b48 B48 e; omega
       have ab75 : vU.ownBlock ≠ some B75 := fun e => by have n0 := (World.ownsRow.lt hU B75 e).1; have n9 := nhU_b75 B75 e; omega
       have hzz := HB.out.size; refine listF_step rfl (fun K' hK => ?_); refine opF_app (d := 76) rfl (by decide) (.tmp 73) (.tmp 75) _ rfl 69 iU _ 24 Tryz.underlying40 hiU hzU hyU hxU rfl (by decide) (fun _ => rfl) unt_one NB vU (pU ML days m i) [y.u] (some ⟨B75, 0, none⟩) 1 (by go_simp) (by go_simp) hU (Cells.rd (f := Unt.cs) (m := 2) (l := [y.u]) (fun _ => rfl) kb75) (by unfold maxLen; simp; omega) (by simp; omega) (by omega) (fun v76 w45 hO' hG hV => hK _ _ ?_); clear hK K' hzz; clear qb11 qb12 qb48 qb75; replace kb11 := kb11.grown hG ab11; clear ab11; replace kb12 := kb12.grown hG ab12; clear ab12; replace kb48 := kb48.grown hG ab48; clear ab48; replace kb75 := kb75.grown hG ab75; clear ab75; clear hr5; replace hr8 := Rd.grown hr8 hG (fun hM b hb e => by have n1 := H8.out b hb hMne; have n2 := (World.ownsRow.lt hU _ e).1; omega); have hap3 := hid (fun u => (Apart.app (hUO2.own u) (hap2.out u).symm hV).symm)
       replace hUO2 := UOwn.grown hUO2 hG (fun u => (hap2.out u).symm); replace hm3 := MapV.grown hm3 hG (fun e => by have n2 := (World.ownsRow.lt hU _ e).1; omega); replace HB := hid (HB.out.grown hG (fun k hk => .inl (by have := (World.ownsRow.lt hU k hk).1; omega))); clear hU; have hU := hO'; clear hO' hG hV; clear nhU_b11 nhU_b12 nhU_b48 nhU_b75; have qb11 := kb11.1; have qb12 := kb12.1; have qb48 := kb48.1; have qb75 := kb75.1; refine pl ?_; clear sl6 sl12 sl72; refine lx [6] ?_; clear sl1 sl2 sl9 sl32 sl33 sl34 sl60 sl61 sl62 sl63 sl64 sl65 sl66 sl67 sl68 sl69 sl70 sl71; intro s46 sl1 sl2 sl9 sl32 sl33 sl34 sl60 sl61 sl62 sl63 sl64 sl65 sl66 sl67 sl68 sl69 sl70 sl71 sl6; refine lr ?_; intros; refine P2 ?_; clear sl34; refine lx [34] ?_; clear sl1 sl2 sl6 sl9 sl32 sl33 sl60 sl61 sl62 sl63 sl64 sl65 sl66 sl67 sl68 sl69 sl70 sl71; intro s47 sl1 sl2 sl6 sl9 sl32 sl33 sl60 sl61 sl62 sl63 sl64 sl65 sl66 sl67 sl68 sl69 sl70 sl71 sl34; refine ln ?_; intros
       rw [← Hay.out] at sl32; refine ⟨_, _, rfl, ?_, i + 1, (fun z => if z = y.u then some v50 else g z), _, rfl, (rL sl6), (rL sl34), (sl1.trans hc0_1.out.symm), (sl2.trans hc0_2.out.symm), (sl9.trans hc0_9.out.symm), (sl32.trans hc0_32.out.symm), (sl33.trans hc0_33.out.symm), HB.out, by omega, by omega, hr8, hm3, (by rw [Htk.out]; exact hUO2), (by rw [HpU.out]; exact hU), hap3⟩
       omega
      ·skip
       have HpU := hid (pU_no (HpC.out.trans (by simpa using h72)))
       refine nr ?_; intros; refine P2 ?_; clear sl34 sl12 sl72; refine lx [34] ?_; clear sl1 sl2 sl6 sl9 sl32 sl33 sl60 sl61 sl62 sl63 sl64 sl65 sl66 sl67 sl68 sl69 sl70 sl71; intro s48 sl1 sl2 sl6 sl9 sl32 sl33 sl60 sl61 sl62 sl63 sl64 sl65 sl66 sl67 sl68 sl69 sl70 sl71 sl34; refine ln ?_; intros
       rw [← Hay.out] at sl32; refine ⟨_, _, rfl, ?_, i + 1, (fun z => if z = y.u then some v50 else g z), _, rfl, (rL sl6), (rL sl34), (sl1.trans hc0_1.out.symm), (sl2.trans hc0_2.out.symm), (sl9.trans hc0_9.out.symm), (sl32.trans hc0_32.out.symm), (sl33.trans hc0_33.out.symm), HB.out, by omega, by omega, hr8, hm3, (by rw [Htk.out]; exact hUO2), (by rw [HpU.out]; exact hU), hap2⟩
       omega
     case dep34 => exact dA
    ·skip
     have hge2 : ¬ (m : Int) ≤ (D.length : Int) := by omega
     rw [Hv5.out] at sl13; have HpC := hid (show pC ML days m i = false by rw [pC_eq hk Hy.out HD.out, decide_eq_false hge]; rfl); have HpU := hid (pU_no HpC.out); have cb11 := clx kb11; have cb48_0 := kb48.cell 0 rfl; refine regionR_F [] [] [] [.q [], .q [], .q [], .q [], .q [], .no, .no, .no, .no, .no, .no, .no, .no, .no, .no, .no, .no, .q []] [?v35_0, ?v35_1, ?v35_2, ?v35_3, ?v35_4, fun _ => undef, fun _ => undef, fun _ => undef, fun _ => undef, fun _ => undef, fun _ => undef, fun _ => undef, fun _ => undef, fun _ => undef, fun _ => undef, fun _ => undef, fun _ => undef, ?v35_17] [fun _ => [], fun _ => [], fun _ => [], fun _ => [], fun _ => [], fun _ => [], fun _ => [], fun _ => [], fun _ => [], fun _ => [], fun _ => [], fun _ => [], fun _ => [], fun _ => [], fun _ => [], fun _ => [], fun _ => [], fun _ => []] (by kernel_rfl) (by kernel_rfl) (by kernel_rfl) (by kernel_rfl) (by kernel_rfl) (by first | exact List.nodup_nil | exact List.nodup_singleton _ | (simp; done) | (simp; omega)) bc_nil ?walk35 ?dep35
     case walk35 =>
      iterate 5 refine rq ?_
      refine XW48e ?_ ?_
      · go_simp
      refine XW48e ?_ ?_
      · go_simp
      refine XW48e ?_ ?_
      · go_simp
      refine XW48e ?_ ?_
      · go_simp
      refine XW48e ?_ ?_
      · go_simp
      refine XW48e ?_ ?_
      · go_simp
      refine XW48e ?_ ?_
      · go_simp
      refine XW48e ?_ ?_
      · go_simp
      refine XW48e ?_ ?_
      · go_simp
      refine XW48e ?_ ?_
      · go_simp
      refine XW48e ?_ ?_
      · go_simp
      refine XW48e ?_ ?_
      · go_simp
      refine rq ?_; refine walkR_nil (fun X hX w49 hwz hcz => ?_); clear hX hcz
      (try clear X)
      skip; have hb50 := hwz.unDrew; clear hwz; clear cb11 cb12 cb48_0; clear qb11 qb12 qb48; replace hr5 := Rd.oldB hr5 hb50 (fun b hb => by have := hn5 b hb; first | (simp; done) | (simp; omega)); replace hr8 := Rd.oldB hr8 hb50 XW48c; replace hUO2 := UOwn.oldB hUO2 hb50 (fun u x hx => by have n1 := UOwn.lt hUO2 u x hx; first | (simp; done) | (simp; omega)); replace hm3 := MapV.oldB hm3 hb50 (by first | (simp; done) | (simp; omega)); replace hU := Own.oldB hU hb50 XW48b; revert HB; revert kb48; revert kb12; revert kb11; refine uO hb50 ?_; clear hb50; intro kb11 qb11 kb12 qb12 kb48 qb48 HB; clear sl11 sl13; refine lx [60,61,62,63,64,65,66,67,68,69,70,71,72] ?_; clear sl1 sl2 sl6 sl9 sl12 sl32 sl33 sl34; intro s51 sl1 sl2 sl6 sl9 sl12 sl32 sl33 sl34 sl60 sl61 sl62 sl63 sl64 sl65 sl66 sl67 sl68 sl69 sl70 sl71 sl72; refine ln ?_; intros
      refine cond_f ?_
      refine nr ?_; intros; refine P2 ?_; clear sl34 sl12 sl72; refine lx [34] ?_; clear sl1 sl2 sl6 sl9 sl32 sl33 sl60 sl61 sl62 sl63 sl64 sl65 sl66 sl67 sl68 sl69 sl70 sl71; intro s52 sl1 sl2 sl6 sl9 sl32 sl33 sl60 sl61 sl62 sl63 sl64 sl65 sl66 sl67 sl68 sl69 sl70 sl71 sl34; refine ln ?_; intros
      rw [← Hay.out] at sl32; refine ⟨_, _, rfl, ?_, i + 1, (fun z => if z = y.u then some v50 else g z), _, rfl, (rL sl6), (rL sl34), (sl1.trans hc0_1.out.symm), (sl2.trans hc0_2.out.symm), (sl9.trans hc0_9.out.symm), (sl32.trans hc0_32.out.symm), (sl33.trans hc0_33.out.symm), HB.out, by omega, by omega, hr8, hm3, (by rw [Htk.out]; exact hUO2), (by rw [HpU.out]; exact hU), hap2⟩
      omega
     case dep35 => exact dA
   ·skip
    have hi : i = ML.length := by have h := h35; simp at h; omega
    rw [hi] at hU; obtain ⟨a6, c6, rfl, hr6, hn6⟩ := Own.slice (f := Unt.cs) (m := 2) (fun _ => rfl) hU; clear hU hapU hUO hmp hr8
    refine zx ?_; intros
    clear hc0_1 hc0_2 hc0_9 hc0_32 hc0_33; refine region_F ?_; refine pl ?_; refine cal (sorted_unt a6 c6 (pU ML days m ML.length) R _ hr6 (Nat.le_trans (pU_len _) (by omega)) (pU_unt HE.out (Nat.le_refl _)) (fun m' hp hs => by rw [HRs.out]; rw [HML.out] at hp; exact sorted_units HnC.out (by omega) hp hs)) ?_; rintro e w53 ⟨a79, c79, rfl, hr79, hf79, hb54⟩; have H79 := hid (show ∀ b, a79 = some b → w.heap.size ≤ b.block from fun b hb => by have := hf79 b hb; have := HB.out.size; omega); clear hf79; refine ⟨_, rfl, ?_⟩; replace hr6 := Rd.at hr6 hb54; replace HB := bE HB hb54; clear hb54; clear hr6; refine P2 ?_; clear sl6 sl1 sl2 sl9 sl32 sl33 sl34 sl35; refine lx [6,7] ?_; intro s55 sl6 sl7; refine ln ?_; intros
    refine XW48f ?_; exact ⟨a79, c79, rfl, hr79, H79.out, HB.out.toBelow⟩
  ·skip
   have e9 := Hr.out.symm.trans (sus_bad2 Hme.out.1 (.inr hd2))
   obtain ⟨rfl, rfl⟩ : R = [] ∧ er = 7 := by simpa using e9
   refine region_F ?_; refine pl ?_; refine cal (tout_any days 1 40001 _) ?_; rintro e w' ⟨rfl, rfl⟩; refine ⟨_, rfl, ?_⟩; refine pl ?_; refine py ?_; refine listF_yes rfl rfl (by decide) ?_ (fun K' hK => ?_); (focus (go_simp; done)); unfold opF; go_simp; refine (tout_any many 1 60 _).mono ?_; rintro e w' ⟨rfl, rfl⟩; refine ⟨_, rfl, hK _ _ ?_⟩; clear hK K'; refine P2 ?_; clear sl7 sl20; refine lx [24] ?_; clear sl1 sl2 sl6 sl8; intro s58 sl1 sl2 sl6 sl8 sl24; refine ln ?_; intros
   refine cond_t ?_
   refine nr ?_; intros; refine P2 ?_; clear sl6 sl1 sl2 sl8 sl24; refine lx [6,7] ?_; intro s59 sl6 sl7; refine ln ?_; intros
   refine XW48f ?_; exact XW48g
  ·skip
   have e9 := Hr.out.symm.trans (sus_bad2 Hme.out.1 (.inl hd1))
   obtain ⟨rfl, rfl⟩ : R = [] ∧ er = 7 := by simpa using e9
   refine region_F ?_; refine pl ?_; refine cal (tout_any days 1 40001 _) ?_; rintro e w' ⟨rfl, rfl⟩; refine ⟨_, rfl, ?_⟩; refine pl ?_; refine pn true ?_; refine pn true ?_; refine P2 ?_; clear sl7 sl20; refine lx [24] ?_; clear sl1 sl2 sl6 sl8; intro s61 sl1 sl2 sl6 sl8 sl24; refine ln ?_; intros
   refine cond_t ?_
   refine nr ?_; intros; refine P2 ?_; clear sl6 sl1 sl2 sl8 sl24; refine lx [6,7] ?_; intro s62 sl6 sl7; refine ln ?_; intros
   refine XW48f ?_; exact XW48g
  ·skip
   have e9 := Hr.out.symm.trans (sus_bad2 Hme.out.1 (.inl hd1))
   obtain ⟨rfl, rfl⟩ : R = [] ∧ er = 7 := by simpa using e9
   refine region_F ?_; refine pl ?_; refine cal (tout_any days 1 40001 _) ?_; rintro e w' ⟨rfl, rfl⟩; refine ⟨_, rfl, ?_⟩; refine pl ?_; refine pn true ?_; refine pn true ?_; refine P2 ?_; clear sl7 sl20; refine lx [24] ?_; clear sl1 sl2 sl6 sl8; intro s64 sl1 sl2 sl6 sl8 sl24; refine ln ?_; intros
   refine cond_t ?_
   refine nr ?_; intros; refine P2 ?_; clear sl6 sl1 sl2 sl8 sl24; refine lx [6,7] ?_; intro s65 sl6 sl7; refine ln ?_; intros
   refine XW48f ?_; exact XW48g
 ·skip
  have e9 := Hr.out.symm.trans (sus_bad Hme.out.1 hme)
  obtain ⟨rfl, rfl⟩ : R = [] ∧ er = me := by simpa using e9
  refine region_F ?_
  refine P3 ?_
  refine lx [20] ?_; clear sl1 sl2 sl6 sl7 sl8; intro s66 sl1 sl2 sl6 sl7 sl8 sl20; refine ln ?_; intros
  refine cond_t ?_
  refine nr ?_; intros
  refine P3 ?_
  clear sl6 sl7 sl1 sl2 sl8 sl20; refine lx [6,7] ?_; intro s67 sl6 sl7; refine ln ?_; intros
  refine XW48f ?_; exact XW48g
end


end Go.Proofs.YtleknidlgmmgbaaGreat
