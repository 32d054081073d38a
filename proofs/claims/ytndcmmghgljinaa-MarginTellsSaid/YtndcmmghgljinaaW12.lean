/- sorted. -/
import Derived.Test.YtndcmmghgljinaaW11
set_option linter.all false
namespace Go.Proofs.Ytndcmmghgljinaa
open Go.RowKit

open Go.Sort
theorem info_cloneCk : (Try.prog.info? 74).map (fun i => (i.zero, i.size, i.bytes)) = some (some (.agg #[.int .i64 0, .int .i64 0, .bool false]), 3, 24) := by kernel_rfl
theorem ck_one (x : MCk) : ∀ u ∈ x.cs, u.oneCell' = true := by intro u hu; simp [MCk.cs] at hu; rcases hu with h | h | h <;> subst h <;> rfl

set_option maxRecDepth 100000 in
set_option maxHeartbeats 1000000 in
theorem cloneCk_none (c : Nat) (l : List MCk) (w : World) (hl : l.length ≤ 1000) (hR : RdCks w none l) :
    Calls Try.prog 83 #[.slice none l.length c] w (fun e w' => ∃ v, e = .returned v ∧ Own MCk.cs 3 74 w.heap.size w' v l ∧ Below w.heap.size w w') := by
 obtain ⟨i0, hi0, hz0, hz1, hz2⟩ := info_parts info_cloneCk; have HR := hid hR; clear hR
 have hnil : ∀ w, (binOp .eql 33 (.slice none l.length c) (.slice none 0 0)).run Try.prog w = .ok (.bool true) w := fun w => Lib.run_eql_slice_nil w _ _ _ _ _ _ _ Try.underlying33
 refine enter_F Try.func83 rfl Try.ntmps83 (by simp) ?_
 intro s0 hs; have sl0 : s0 0 = .slice none l.length c := hs 0 (by simp); clear hs; have HB := hid (OldB.refl [] w)
 repeat ((fail_if_success refine stp ?_); with_reducible go_step)
 refine region_F ?_; refine pl ?_; refine listF_abs (fun s1 z' => ?_); replace sl0 := gs 0 z' sl0; clear z'; refine listF_nil ?_
 repeat ((fail_if_success refine stp ?_); with_reducible go_step)
 refine region_F ?_; refine pl ?_; refine pl ?_; refine listF_abs (fun s2 z' => ?_); replace sl0 := gs 0 z' sl0; have sl4 := gu 4 z'; clear z'; refine listF_nil ?_
 repeat ((fail_if_success refine stp ?_); with_reducible go_step)
 refine cond_t ?_
 repeat ((fail_if_success refine stp ?_); with_reducible go_step)
 refine region_F ?_; refine pl ?_; refine listF_abs (fun s3 z' => ?_); have sl2 := gu 2 z'; clear z' sl0 sl4; refine listF_nil ?_
 repeat ((fail_if_success refine stp ?_); with_reducible go_step)
 refine ret_F _ (res_t Try.results83 ((getD_F (by decide)).trans sl2)) ?_
 have hl0 : l = [] := by rcases HR.out with h | ⟨b, o, h, _⟩; exact h; cases h
 exact ⟨_, rfl, by rw [hl0]; exact Own.nil _ _ _ _ _, HB.out.toBelow⟩

set_option maxRecDepth 100000 in
set_option maxHeartbeats 1000000 in
theorem cloneCk_some (p : Addr) (c : Nat) (l : List MCk) (w : World) (hl : l.length ≤ 1000) (hR : RdCks w (some p) l) :
    Calls Try.prog 83 #[.slice (some p) l.length c] w (fun e w' => ∃ v, e = .returned v ∧ Own MCk.cs 3 74 w.heap.size w' v l ∧ Below w.heap.size w w') := by
 obtain ⟨i0, hi0, hz0, hz1, hz2⟩ := info_parts info_cloneCk; have HR := hid hR; clear hR
 have hnil : ∀ w, (binOp .eql 33 (.slice (some p) l.length c) (.slice none 0 0)).run Try.prog w = .ok (.bool false) w := fun w => Lib.run_eql_slice_nil w _ _ _ _ _ _ _ Try.underlying33
 refine enter_F Try.func83 rfl Try.ntmps83 (by simp) ?_
 intro s0 hs; have sl0 : s0 0 = .slice (some p) l.length c := hs 0 (by simp); clear hs; have HB := hid (OldB.refl [] w)
 repeat ((fail_if_success refine stp ?_); with_reducible go_step)
 refine region_F ?_; refine pl ?_; refine listF_abs (fun s1 z' => ?_); replace sl0 := gs 0 z' sl0; clear z'; refine listF_nil ?_
 repeat ((fail_if_success refine stp ?_); with_reducible go_step)
 refine region_F ?_; refine pl ?_; refine pl ?_; refine listF_abs (fun s2 z' => ?_); replace sl0 := gs 0 z' sl0; have sl4 := gu 4 z'; clear z'; refine listF_nil ?_
 repeat ((fail_if_success refine stp ?_); with_reducible go_step)
 refine cond_f ?_
 repeat ((fail_if_success refine stp ?_); with_reducible go_step)
 refine region_F ?_; refine listF_step rfl (fun K' hK => ?_); unfold opF; go_simp; refine hK _ _ ?_; clear hK K'; refine listF_absw ?_; intro w3 hw'
 have hO5 : Own MCk.cs 3 74 w.heap.size w3 (.slice (some ⟨w.heap.size, 0, none⟩) 0 0) [] := by rw [hw']; exact Own.lit (l := ([] : List MCk)) (Nat.le_refl _) (by unfold maxLen; simp) rfl (fun _ => rfl)
 have hb4 : Below w.heap.size w w3 := by rw [hw']; exact below_alloc1 _ _
 clear hw'; replace HB := hid (HB.out.below hb4); clear hb4; refine pl ?_; refine listF_step rfl (fun K' hK => ?_); have hzz := HB.out.size; refine opF_app (d := 7) rfl (by decide) (.tmp 5) (.tmp 6) _ rfl 74 i0 _ 24 Try.underlying33 hi0 hz0 hz1 hz2 rfl (by decide) (fun _ => rfl) ck_one w.heap.size _ [] l (some p) c (by go_simp) (by go_simp) hO5 (Rd.oldB HR.out HB.out (by simp)) (by unfold maxLen; simp; omega) (by simp; omega) (by omega) (fun v7 w5 hO7 hG7 hV7 => hK _ _ ?_); clear hK K'; replace HB := hid (HB.out.grown hG7 (fun k hk => .inl (by simp [Value.ownBlock] at hk; omega))); have HO7 := hid hO7; clear hO5 hG7 hV7 hzz hO7; refine pl ?_; refine listF_abs (fun s7 z' => ?_); have sl2 := gu 2 z'; clear z' sl0 sl4; refine listF_nil ?_
 repeat ((fail_if_success refine stp ?_); with_reducible go_step)
 refine ret_F _ (res_t Try.results83 ((getD_F (by decide)).trans sl2)) ?_; exact ⟨_, rfl, HO7.out, HB.out.toBelow⟩

theorem cloneCk_any (a : Option Addr) (c : Nat) (l : List MCk) (w : World) (hl : l.length ≤ 1000) (hR : RdCks w a l) :
    Calls Try.prog 83 #[.slice a l.length c] w fun e w' => ∃ v, e = .returned v ∧ Own MCk.cs 3 74 w.heap.size w' v l ∧ Below w.heap.size w w' := by
  cases a with
  | none => exact cloneCk_none c l w hl hR
  | some p => exact cloneCk_some p c l w hl hR

theorem Own.asCells {α : Type} {f : α → List Value} {m : Nat} {T : TypeId} {base : Nat} {w : World} {g n cap : Nat} {l : List α} (h : Own f m T base w (.slice (some ⟨g, 0, none⟩) n cap) l) : Cells w g (l.flatMap f) := by
  refine ⟨(World.ownsRow.lt h g rfl).2, fun i v hv => ?_, Own.frozen h⟩; have := World.ownsRow.cells (g := g) h rfl i v hv; rwa [show (⟨g, 0, none⟩ : Addr).add i = ⟨g, i, none⟩ by unfold Addr.add; split <;> simp_all] at this
theorem perm_list {d d' : Array MCk} (h : PermIn 0 d.size d d') : d'.toList.Perm d.toList := by
  have h3 := h.2.2
  have e1 : d.extract 0 d.size = d := by simp
  have e2 : d'.extract 0 d.size = d' := by rw [← h.1]; simp
  rw [e1, e2] at h3; exact h3
theorem sorted_list {d : Array MCk} (h : SortedIn ltH 0 d.size d) : SortedC d.toList := by
  unfold SortedC; rw [List.pairwise_iff_getElem]; intro i j hi hj hij
  have hi' : i < d.size := by simpa using hi
  have hj' : j < d.size := by simpa using hj
  have := (sortedIn_iff.1 h) i j (Nat.zero_le _) hij hj'; unfold hr at this; rw [getElem!_pos d i hi', getElem!_pos d j hj'] at this
  simpa using this
/-- what sorted hands back: a list of its own -/
def SortedRes (l : List MCk) (w : World) (e : Ending) (w' : World) : Prop := ∃ a c l', e = .returned (.slice a l'.length c) ∧ RdCks w' a l' ∧ SortedC l' ∧ l'.Perm l ∧ (∀ b, a = some b → w.heap.size ≤ b.block) ∧ Below w.heap.size w w'

set_option maxRecDepth 100000 in
set_option maxHeartbeats 1000000 in
theorem sorted_any (a : Option Addr) (c : Nat) (l : List MCk) (w : World) (hl : l.length ≤ 30) (hR : RdCks w a l) (hH : ∀ x ∈ l, hourOk x) :
    Calls Try.prog 72 #[.agg #[.func (.func 73) #[] #[]], .slice a l.length c] w (SortedRes l w) := by
 have HR := hid hR; have HH := hid hH; clear hR hH
 refine enter_F Try.func72 rfl Try.ntmps72 (by simp) ?_
 intro s0 hs; have sl0 : s0 0 = .agg #[.func (.func 73) #[] #[]] := hs 0 (by simp); have sl1 : s0 1 = .slice a l.length c := hs 1 (by simp); clear hs; have HB := hid (OldB.refl [] w)
 repeat ((fail_if_success refine stp ?_); with_reducible go_step)
 refine region_F ?_; refine pa (fun w1 B2 hB kb2' hb2 => ?_); have gb2 := HB.out.gB hB; have eb2 := eB hB; clear hB; replace HB := hid (HB.out.below hb2); clear hb2; have kb2 := kb2'; clear kb2'; have qb2 := kb2.1; refine pl ?_; refine listF_abs (fun s3 z' => ?_); replace sl1 := gs 1 z' sl1; have sl2 := gu 2 z'; clear z' sl0; refine listF_nil ?_
 repeat ((fail_if_success refine stp ?_); with_reducible go_step)
 refine region_F ?_; refine pl ?_; have hB2w : B2 < w1.heap.size := kb2.1; have hwk := HB.out.size; refine listF_step rfl (fun K' hK => ?_); unfold opF; go_simp; refine (cloneCk_any a c l _ (by omega) (Rd.oldB HR.out HB.out (by simp))).mono ?_; rintro e w4 ⟨v6, rfl, hO6, hb5⟩; refine ⟨_, rfl, hK _ _ ?_⟩; clear hK K'; clear qb2; replace kb2 := kb2.at hb5; replace HB := hid (HB.out.below hb5); clear hb5; have qb2 := kb2.1; refine pl ?_; refine listF_abs (fun s6 z' => ?_); replace sl1 := gu 1 z'; replace sl2 := gs 2 z' sl2; clear z'; refine listF_nil ?_
 repeat ((fail_if_success refine stp ?_); with_reducible go_step)
 rcases hO6.form with ⟨rfl, hl0⟩ | ⟨g, cap, rfl, hg1, hg2⟩
 ·skip
  have Hl0 := hid hl0; clear hl0 hO6; refine region_F ?_; refine pl ?_; refine pl ?_; refine listF_step rfl (fun K' hK => ?_); unfold opF; go_simp; refine (sortStable_nil _ _).mono ?_; rintro e w7 ⟨rfl, hb8⟩; refine ⟨_, rfl, hK _ _ ?_⟩; clear hK K'; clear qb2; replace kb2 := kb2.at hb8; replace HB := hid (HB.out.below hb8); clear hb8; have qb2 := kb2.1; refine listF_abs (fun s9 z' => ?_); replace sl1 := gs 1 z' sl1; clear z' sl2; refine listF_nil ?_
  repeat ((fail_if_success refine stp ?_); with_reducible go_step)
  refine region_F ?_; refine pl ?_; refine pl ?_; refine listF_abs (fun s10 z' => ?_); have sl4 := gu 4 z'; clear z' sl1; refine listF_nil ?_
  repeat ((fail_if_success refine stp ?_); with_reducible go_step)
  refine ret_F _ (res_t Try.results72 ((getD_F (by decide)).trans sl4)) ?_; exact ⟨none, 0, [], rfl, .inl rfl, List.Pairwise.nil, (by rw [Hl0.out]), (fun b hb => by cases hb), HB.out.toBelow⟩
 ·skip
  have kg' : Cells w4 g (fl l.toArray) := by have := hO6.asCells; unfold fl; simpa using this
  have HA := hid (show AllH l.toArray by intro k hk; rw [getElem!_pos _ k hk]; exact HH.out _ (by simp))
  have hgb : B2 < g := by omega
  have hgw : w.heap.size ≤ g := by omega
  clear hO6 hg1 hg2; have kg := kg'; clear kg'; have qg := kg.1; refine region_F ?_; refine pl ?_; refine pl ?_; refine listF_step rfl (fun K' hK => ?_); unfold opF; go_simp; refine (sortStable_any g cap B2 _ l.toArray (by simp) _ kg kb2 (by omega) (by simpa using hl) HA.out).mono ?_; rintro e w11 ⟨rfl, d2, kg2, ⟨hP2, hs2⟩, hb12⟩; have hP2 := hid hP2; have hs2 := hid hs2; refine ⟨_, rfl, hK _ _ ?_⟩; clear hK K'; clear qb2 qg; replace kg := kg2; replace kb2 := kb2.oldB hb12 (by first | (simp; done) | (simp; omega)); replace HB := hid (HB.out.more hb12 (by simp; try omega)); clear hb12; have qb2 := kb2.1; have qg := kg.1; refine listF_abs (fun s13 z' => ?_); replace sl1 := gs 1 z' sl1; clear z' sl2; refine listF_nil ?_
  repeat ((fail_if_success refine stp ?_); with_reducible go_step)
  refine region_F ?_; refine pl ?_; refine pl ?_; refine listF_abs (fun s14 z' => ?_); have sl4 := gu 4 z'; clear z' sl1; refine listF_nil ?_
  repeat ((fail_if_success refine stp ?_); with_reducible go_step)
  refine ret_F _ (res_t Try.results72 ((getD_F (by decide)).trans sl4)) ?_; have hpl := perm_list hP2.out; refine ⟨some ⟨g, 0, none⟩, cap, d2.toList, by rw [hpl.length_eq], Cells.rd (f := MCk.cs) (m := 3) (fun _ => rfl) kg, sorted_list (by have := hs2.out; rwa [← hP2.out.1] at this), by simpa using hpl, (fun b hb => by cases hb; exact hgw), HB.out.toBelow⟩

end Go.Proofs.Ytndcmmghgljinaa
