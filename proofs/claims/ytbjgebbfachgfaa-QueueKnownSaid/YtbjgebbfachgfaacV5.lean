/- QueueKnown: its walk. -/
import Derived.Test.YtbjgebbfachgfaacAw
import Derived.Test.YtbjgebbfachgfaacEx2
set_option linter.unusedVariables false
set_option linter.unusedSimpArgs false
set_option linter.unusedSectionVars false
set_option linter.all false
namespace Go.Proofs.Ytbjgebbfachgfaa
open Go.RowKit

theorem ex2_in {w : World} {b F : Nat} (h : RdJobs w (some ⟨b, 0, none⟩) exJobs) (hF : Cells w F [.int .i64 15, .int .i64 10]) : WorkIn w exWork2 (some ⟨b, 0, none⟩) (some ⟨F, 0, none⟩) :=
  ⟨h, Cells.rd (f := Fault.cs) (m := 2) (l := [⟨15, 10⟩]) (fun _ => rfl) hF, (ex_in h).jl, by decide, (ex_in h).nm⟩
theorem exDay20_any {w : World} {b F : Nat} (h : RdJobs w (some ⟨b, 0, none⟩) exJobs) (hF : Cells w F [.int .i64 15, .int .i64 10]) : Calls Try.prog 24 #[.agg #[.int .i64 10, .int .i64 2, .int .i64 1, .int .i64 30, .int .i64 5, .slice (some ⟨b, 0, none⟩) 3 3, .slice (some ⟨F, 0, none⟩) 1 1], .int .i64 20] w fun e w' => ∃ a c n a' c', e = .returned (.tuple #[.slice a 3 c, .agg #[.int .i64 n, .slice a' 3 c'], .int .i64 0]) ∧ RdSpells w' a exShort ∧ Below w.heap.size w w' := by
  refine (qDay_any exWork2 20 (some ⟨b, 0, none⟩) (some ⟨F, 0, none⟩) 3 1 w (ex2_in h hF)).mono ?_
  rintro e w' ⟨a, c, a', c', he, hl, hq, hb, _⟩
  rw [ex2_day20.1, ex2_day20.2.1, ex2_day20.2.2] at he
  rw [ex2_day20.1] at hl
  exact ⟨a, c, _, a', c', he, hl, hb⟩
theorem exDay40_any {w : World} {b F : Nat} (h : RdJobs w (some ⟨b, 0, none⟩) exJobs) (hF : Cells w F [.int .i64 15, .int .i64 10]) : Calls Try.prog 24 #[.agg #[.int .i64 10, .int .i64 2, .int .i64 1, .int .i64 30, .int .i64 5, .slice (some ⟨b, 0, none⟩) 3 3, .slice (some ⟨F, 0, none⟩) 1 1], .int .i64 40] w fun e w' => ∃ a c n a' c', e = .returned (.tuple #[.slice a 6 c, .agg #[.int .i64 n, .slice a' 3 c'], .int .i64 0]) ∧ RdSpells w' a (exShort ++ exMore) ∧ Below w.heap.size w w' := by
  refine (qDay_any exWork2 40 (some ⟨b, 0, none⟩) (some ⟨F, 0, none⟩) 3 1 w (ex2_in h hF)).mono ?_
  rintro e w' ⟨a, c, a', c', he, hl, hq, hb, _⟩
  rw [ex2_day40.1, ex2_day40.2.1, ex2_day40.2.2] at he
  rw [ex2_day40.1] at hl
  exact ⟨a, c, _, a', c', he, hl, hb⟩
theorem exQuote1_c {N : Nat} {w0 wq : World} (h : Below N w0 wq) (hN : N ≤ wq.heap.size) : Calls Try.prog 30 #[.agg #[.int .i64 10, .int .i64 2, .int .i64 1, .int .i64 30, .int .i64 5], .agg #[.string ⟨#[98]⟩, .int .i64 1, .int .i64 8, .int .i64 5]] wq fun e w' => e = .returned (.tuple #[.int .i64 35, .int .i64 0]) ∧ Below N w0 w' := by
  refine (qquote_any exRules ⟨⟨#[98]⟩, 1, 8, 5⟩ wq).mono ?_
  rintro e w' ⟨he, hb⟩
  rw [ex2_quote1.1, ex2_quote1.2] at he
  exact ⟨he, h.trans (hb.mono hN)⟩
theorem exJob1 {w : World} {b : Nat} (h : RdJobs w (some ⟨b, 0, none⟩) exJobs) : b < w.heap.size ∧ w.cell? ⟨b, 4, none⟩ = some (.string ⟨#[98]⟩) ∧ w.cell? ⟨b, 5, none⟩ = some (.int .i64 1) ∧ w.cell? ⟨b, 6, none⟩ = some (.int .i64 8) ∧ w.cell? ⟨b, 7, none⟩ = some (.int .i64 5) := by
  rcases h with h | ⟨b', off, ha, hlt, hc⟩
  · cases h
  · cases ha
    exact ⟨hlt, hc 1 _ rfl 0 _ rfl, hc 1 _ rfl 1 _ rfl, hc 1 _ rfl 2 _ rfl, hc 1 _ rfl 3 _ rfl⟩
theorem exQuote2_c {N : Nat} {w0 wq : World} (h : Below N w0 wq) (hN : N ≤ wq.heap.size) : Calls Try.prog 30 #[.agg #[.int .i64 10, .int .i64 2, .int .i64 1, .int .i64 30, .int .i64 5], .agg #[.string ⟨#[99]⟩, .int .i64 2, .int .i64 4, .int .i64 9]] wq fun e w' => e = .returned (.tuple #[.int .i64 30, .int .i64 0]) ∧ Below N w0 w' := by
  refine (qquote_any exRules ⟨⟨#[99]⟩, 2, 4, 9⟩ wq).mono ?_
  rintro e w' ⟨he, hb⟩
  rw [ex2_quote2.1, ex2_quote2.2] at he
  exact ⟨he, h.trans (hb.mono hN)⟩
theorem exJob2 {w : World} {b : Nat} (h : RdJobs w (some ⟨b, 0, none⟩) exJobs) : b < w.heap.size ∧ w.cell? ⟨b, 8, none⟩ = some (.string ⟨#[99]⟩) ∧ w.cell? ⟨b, 9, none⟩ = some (.int .i64 2) ∧ w.cell? ⟨b, 10, none⟩ = some (.int .i64 4) ∧ w.cell? ⟨b, 11, none⟩ = some (.int .i64 9) := by
  rcases h with h | ⟨b', off, ha, hlt, hc⟩
  · cases h
  · cases ha
    exact ⟨hlt, hc 2 _ rfl 0 _ rfl, hc 2 _ rfl 1 _ rfl, hc 2 _ rfl 2 _ rfl, hc 2 _ rfl 3 _ rfl⟩
theorem ownS_made {w we : World} (h : we = w.alloc (.cells #[.int .i64 1, .int .i64 0, .int .i64 0, .int .i64 13, .int .i64 4, .int .i64 2, .int .i64 13, .int .i64 15, .int .i64 5, .int .i64 (-1), .int .i64 15, .int .i64 25] 40)) : we.ownsRow w.heap.size 40 4 (.slice (some ⟨w.heap.size, 0, none⟩) 3 3) 3 (exShort.flatMap Spell.cs) := by
  subst h
  exact ⟨rfl, .inr ⟨w.heap.size, 3, #[.int .i64 1, .int .i64 0, .int .i64 0, .int .i64 13, .int .i64 4, .int .i64 2, .int .i64 13, .int .i64 15, .int .i64 5, .int .i64 (-1), .int .i64 15, .int .i64 25], rfl, Nat.le_refl _, World.alloc_heap_new w _, Nat.le_refl _, by unfold maxLen; omega, rfl, rfl⟩⟩
theorem kS_made {w we : World} (h : we = w.alloc (.cells #[.int .i64 1, .int .i64 0, .int .i64 0, .int .i64 13, .int .i64 4, .int .i64 2, .int .i64 13, .int .i64 15, .int .i64 5, .int .i64 (-1), .int .i64 15, .int .i64 25] 40)) : Cells we w.heap.size [.int .i64 1, .int .i64 0, .int .i64 0, .int .i64 13, .int .i64 4, .int .i64 2, .int .i64 13, .int .i64 15, .int .i64 5, .int .i64 (-1), .int .i64 15, .int .i64 25] := by
  rw [h]; exact Cells.new (cs := #[.int .i64 1, .int .i64 0, .int .i64 0, .int .i64 13, .int .i64 4, .int .i64 2, .int .i64 13, .int .i64 15, .int .i64 5, .int .i64 (-1), .int .i64 15, .int .i64 25]) rfl
theorem kT_made {w we : World} (h : we = w.alloc (.cells #[.int .i64 3, .int .i64 2, .int .i64 25, .int .i64 31, .int .i64 2, .int .i64 1, .int .i64 31, .int .i64 38, .int .i64 1, .int .i64 0, .int .i64 38, .int .i64 51] 40)) : Cells we w.heap.size [.int .i64 3, .int .i64 2, .int .i64 25, .int .i64 31, .int .i64 2, .int .i64 1, .int .i64 31, .int .i64 38, .int .i64 1, .int .i64 0, .int .i64 38, .int .i64 51] := by
  rw [h]; exact Cells.new (cs := #[.int .i64 3, .int .i64 2, .int .i64 25, .int .i64 31, .int .i64 2, .int .i64 1, .int .i64 31, .int .i64 38, .int .i64 1, .int .i64 0, .int .i64 38, .int .i64 51]) rfl
theorem st_one_sp (l : List Spell) : ∀ u ∈ l.flatMap Spell.cs, u.oneCell' = true := by
  intro u hu
  obtain ⟨s, _, h⟩ := List.mem_flatMap.1 hu
  exact spell_one s u h

set_option maxRecDepth 100000 in
set_option maxHeartbeats 8000000 in
theorem known_walk (w : World) : Calls Try.prog 7 #[] w fun e w' => e = .returned (.bool true) ∧ Below w.heap.size w w' := by
  obtain ⟨i0, hi0, hz0, hz1, hz2⟩ := info_parts info_spell
  refine enter_F Try.func7 rfl Try.ntmps7 (by simp) ?_
  intro s _
  repeat (first | ((first | (refine listF_step rfl (fun K' hK => ?_)) | (refine listF_yes rfl rfl (by decide) ?_ (fun K' hK => ?_); (focus (go_simp; done)))); unfold opF; go_simp; (refine hK _ _ ?_); clear hK K') | (refine listF_no (b' := true) rfl rfl (by decide) ?_ ?_ ?_; (focus (go_simp; done)); (focus rfl)) | (refine listF_no (b' := false) rfl rfl (by decide) ?_ ?_ ?_; (focus (go_simp; done)); (focus rfl)) | (refine listF_nu rfl rfl (by decide) ?_ ?_; (focus (go_simp; done))) | (refine listF_nil ?_) | (refine region_F ?_) | (refine cond_F true ?_ ?_; (focus (go_simp; done)); simp only [if_true]) | (refine cond_F false ?_ ?_; (focus (go_simp; done)); simp only [Bool.false_eq_true, if_false]) | (with_reducible go_step))
  (refine listF_step rfl (fun K' hK => ?_); unfold opF; go_simp; refine (lwork_any _).mono ?_; rintro e w2 ⟨b, rfl, hb0, hj, hb2⟩; refine ⟨_, rfl, hK _ _ ?_⟩; clear hK K')
  (refine listF_abs ?_; intro s' hs'; have gl13 := congrFun hs' 13; simp only [updS_some, updS_none, Nat.reduceEqDiff, ↓reduceIte] at gl13; (try rw [sl13] at gl13); clear hs'; (try clear sl13); have sl13 := gl13; clear gl13)
  repeat (first | ((first | (refine listF_step rfl (fun K' hK => ?_)) | (refine listF_yes rfl rfl (by decide) ?_ (fun K' hK => ?_); (focus (go_simp; done)))); unfold opF; go_simp; (refine hK _ _ ?_); clear hK K') | (refine listF_no (b' := true) rfl rfl (by decide) ?_ ?_ ?_; (focus (go_simp; done)); (focus rfl)) | (refine listF_no (b' := false) rfl rfl (by decide) ?_ ?_ ?_; (focus (go_simp; done)); (focus rfl)) | (refine listF_nu rfl rfl (by decide) ?_ ?_; (focus (go_simp; done))) | (refine listF_nil ?_) | (refine region_F ?_) | (refine cond_F true ?_ ?_; (focus (go_simp; done)); simp only [if_true]) | (refine cond_F false ?_ ?_; (focus (go_simp; done)); simp only [Bool.false_eq_true, if_false]) | (with_reducible go_step))
  refine wp_absw ?_
  intro w3 hw3
  have k1 : Cells w3 w2.heap.size [.int .i64 10, .int .i64 2, .int .i64 1, .int .i64 30, .int .i64 5, .slice (some ⟨b, 0, none⟩) 3 3, .slice none 0 0] := by rw [hw3]; exact Cells.new (cs := #[.int .i64 10, .int .i64 2, .int .i64 1, .int .i64 30, .int .i64 5, .slice (some ⟨b, 0, none⟩) 3 3, .slice none 0 0]) rfl
  have hb3 : Below w2.heap.size w2 w3 := by rw [hw3]; exact (by repeat (first | (with_reducible exact Below.refl _ w2) | (with_reducible refine bdrewN ?_ _) | (with_reducible refine Below.drew ?_) | (with_reducible refine Below.setCell ?_ (by first | omega | (simp; done) | (simp; omega)) _) | (with_reducible refine Below.alloc ?_ (by first | omega | (simp; done) | (simp; omega)) _)))
  have hbB : b < w2.heap.size := (exJob0 hj).1
  replace hj := Rd.at hj hb3
  have HB0 := hid (hb2.trans (hb3.mono hb2.size) : Below w.heap.size w w3)
  have hwB := hb2.size
  clear hw3 hb3 hb2 hb0
  (refine wp_abs ?_; intro s' hs'; have gl1 := congrFun hs' 1; simp only [updS_some, updS_none, Nat.reduceEqDiff, ↓reduceIte] at gl1; (try rw [sl1] at gl1); clear hs'; (try clear sl1); have sl1 := gl1; clear gl1)
  generalize w2.heap.size = B at *
  have k1_0 := k1.cell 0 rfl
  have k1_1 := k1.cell 1 rfl
  have k1_2 := k1.cell 2 rfl
  have k1_3 := k1.cell 3 rfl
  have k1_4 := k1.cell 4 rfl
  have k1_5 := k1.cell 5 rfl
  have k1_6 := k1.cell 6 rfl
  have k1_s := k1.1
  obtain ⟨jb, j0, j1, j2, j3⟩ := exJob1 hj
  refine regionQ_F (Below w3.heap.size w3) (by kernel_rfl) (by kernel_rfl) (Below.refl _ _).drew ?_
  repeat (first | (refine listQ_step (v := ?_) rfl ?_ ?_; rotate_left; (focus (intro wq hwq; obtain ⟨hcq, hfq⟩ := bcell hwq; go_simp; (first | rfl | (exact ⟨rfl, rfl⟩) | (exact exQuote1_c hwq hwq.size))))) | (refine listQ_yes (v := ?_) rfl rfl (by decide) ?_ ?_ ?_; rotate_left; (focus (go_simp; done)); (focus (intro wq hwq; obtain ⟨hcq, hfq⟩ := bcell hwq; go_simp; (first | rfl | (exact ⟨rfl, rfl⟩) | (exact exQuote1_c hwq hwq.size))))) | (refine listQ_no (b' := true) rfl rfl (by decide) ?_ ?_ ?_; (focus (go_simp; done)); (focus rfl)) | (refine listQ_no (b' := false) rfl rfl (by decide) ?_ ?_ ?_; (focus (go_simp; done)); (focus rfl)) | (refine listQ_nu rfl rfl (by decide) ?_ ?_; (focus (go_simp; done))) | (refine listQ_nil ?_))
  intro w4 hw4
  clear jb j0 j1 j2 j3
  clear k1_0 k1_1 k1_2 k1_3 k1_4 k1_5 k1_6 k1_s
  replace k1 := k1.at hw4
  replace hj := Rd.at hj hw4
  have HB1 := hid (HB0.out.trans (hw4.mono HB0.out.size) : Below w.heap.size w w4)
  clear hw4 HB0
  repeat (first | ((first | (refine listF_step rfl (fun K' hK => ?_)) | (refine listF_yes rfl rfl (by decide) ?_ (fun K' hK => ?_); (focus (go_simp; done)))); unfold opF; go_simp; (refine hK _ _ ?_); clear hK K') | (refine listF_no (b' := true) rfl rfl (by decide) ?_ ?_ ?_; (focus (go_simp; done)); (focus rfl)) | (refine listF_no (b' := false) rfl rfl (by decide) ?_ ?_ ?_; (focus (go_simp; done)); (focus rfl)) | (refine listF_nu rfl rfl (by decide) ?_ ?_; (focus (go_simp; done))) | (refine listF_nil ?_) | (refine region_F ?_) | (refine cond_F true ?_ ?_; (focus (go_simp; done)); simp only [if_true]) | (refine cond_F false ?_ ?_; (focus (go_simp; done)); simp only [Bool.false_eq_true, if_false]) | (with_reducible go_step))
  (refine wp_abs ?_; intro s' hs'; have gl1 := congrFun hs' 1; simp only [updS_some, updS_none, Nat.reduceEqDiff, ↓reduceIte] at gl1; (try rw [sl1] at gl1); have gl2 := congrFun hs' 2; simp only [updS_some, updS_none, Nat.reduceEqDiff, ↓reduceIte] at gl2; (try rw [sl2] at gl2); have gl3 := congrFun hs' 3; simp only [updS_some, updS_none, Nat.reduceEqDiff, ↓reduceIte] at gl3; (try rw [sl3] at gl3); clear hs'; (try clear sl1); (try clear sl2); (try clear sl3); have sl1 := gl1; clear gl1; have sl2 := gl2; clear gl2; have sl3 := gl3; clear gl3)
  have k1_0 := k1.cell 0 rfl
  have k1_1 := k1.cell 1 rfl
  have k1_2 := k1.cell 2 rfl
  have k1_3 := k1.cell 3 rfl
  have k1_4 := k1.cell 4 rfl
  have k1_5 := k1.cell 5 rfl
  have k1_6 := k1.cell 6 rfl
  have k1_s := k1.1
  obtain ⟨jb, j0, j1, j2, j3⟩ := exJob2 hj
  refine regionQ_F (Below w4.heap.size w4) (by kernel_rfl) (by kernel_rfl) (Below.refl _ _).drew ?_
  repeat (first | (refine listQ_step (v := ?_) rfl ?_ ?_; rotate_left; (focus (intro wq hwq; obtain ⟨hcq, hfq⟩ := bcell hwq; go_simp; (first | rfl | (exact ⟨rfl, rfl⟩) | (exact exQuote2_c hwq hwq.size))))) | (refine listQ_yes (v := ?_) rfl rfl (by decide) ?_ ?_ ?_; rotate_left; (focus (go_simp; done)); (focus (intro wq hwq; obtain ⟨hcq, hfq⟩ := bcell hwq; go_simp; (first | rfl | (exact ⟨rfl, rfl⟩) | (exact exQuote2_c hwq hwq.size))))) | (refine listQ_no (b' := true) rfl rfl (by decide) ?_ ?_ ?_; (focus (go_simp; done)); (focus rfl)) | (refine listQ_no (b' := false) rfl rfl (by decide) ?_ ?_ ?_; (focus (go_simp; done)); (focus rfl)) | (refine listQ_nu rfl rfl (by decide) ?_ ?_; (focus (go_simp; done))) | (refine listQ_nil ?_))
  intro w5 hw5
  clear jb j0 j1 j2 j3
  clear k1_0 k1_1 k1_2 k1_3 k1_4 k1_5 k1_6 k1_s
  replace k1 := k1.at hw5
  replace hj := Rd.at hj hw5
  have HB2 := hid (HB1.out.trans (hw5.mono HB1.out.size) : Below w.heap.size w w5)
  clear hw5 HB1
  have k1_0 := k1.cell 0 rfl
  have k1_1 := k1.cell 1 rfl
  have k1_2 := k1.cell 2 rfl
  have k1_3 := k1.cell 3 rfl
  have k1_4 := k1.cell 4 rfl
  have k1_5 := k1.cell 5 rfl
  have k1_6 := k1.cell 6 rfl
  have k1_s := k1.1
  have k1z := k1.2.2
  repeat (first | ((first | (refine listF_step rfl (fun K' hK => ?_)) | (refine listF_yes rfl rfl (by decide) ?_ (fun K' hK => ?_); (focus (go_simp; done)))); unfold opF; go_simp; (refine hK _ _ ?_); clear hK K') | (refine listF_no (b' := true) rfl rfl (by decide) ?_ ?_ ?_; (focus (go_simp; done)); (focus rfl)) | (refine listF_no (b' := false) rfl rfl (by decide) ?_ ?_ ?_; (focus (go_simp; done)); (focus rfl)) | (refine listF_nu rfl rfl (by decide) ?_ ?_; (focus (go_simp; done))) | (refine listF_nil ?_) | (refine region_F ?_) | (refine cond_F true ?_ ?_; (focus (go_simp; done)); simp only [if_true]) | (refine cond_F false ?_ ?_; (focus (go_simp; done)); simp only [Bool.false_eq_true, if_false]) | (with_reducible go_step))
  (refine listF_abs ?_; intro s' hs'; have gl1 := congrFun hs' 1; simp only [updS_some, updS_none, Nat.reduceEqDiff, ↓reduceIte] at gl1; (try rw [sl1] at gl1); have gl2 := congrFun hs' 2; simp only [updS_some, updS_none, Nat.reduceEqDiff, ↓reduceIte] at gl2; (try rw [sl2] at gl2); have gl3 := congrFun hs' 3; simp only [updS_some, updS_none, Nat.reduceEqDiff, ↓reduceIte] at gl3; (try rw [sl3] at gl3); have gl4 := congrFun hs' 4; simp only [updS_some, updS_none, Nat.reduceEqDiff, ↓reduceIte] at gl4; (try rw [sl4] at gl4); have gl5 := congrFun hs' 5; simp only [updS_some, updS_none, Nat.reduceEqDiff, ↓reduceIte] at gl5; (try rw [sl5] at gl5); have gl38 := congrFun hs' 38; simp only [updS_some, updS_none, Nat.reduceEqDiff, ↓reduceIte] at gl38; (try rw [sl38] at gl38); clear hs'; (try clear sl1); (try clear sl2); (try clear sl3); (try clear sl4); (try clear sl5); (try clear sl38); have sl1 := gl1; clear gl1; have sl2 := gl2; clear gl2; have sl3 := gl3; clear gl3; have sl4 := gl4; clear gl4; have sl5 := gl5; clear gl5; have sl38 := gl38; clear gl38)
  refine listF_absw ?_
  intro w6 hw6
  have kF : Cells w6 w5.heap.size [.int .i64 15, .int .i64 10] := by rw [hw6]; exact Cells.new (cs := #[.int .i64 15, .int .i64 10]) (by simp)
  have k1' : Cells w6 B [.int .i64 10, .int .i64 2, .int .i64 1, .int .i64 30, .int .i64 5, .slice (some ⟨b, 0, none⟩) 3 3, .slice (some ⟨w5.heap.size, 0, none⟩) 1 1] := by rw [hw6]; exact Cells.up (Cells.set (i := 6) (u := .slice (some ⟨w5.heap.size, 0, none⟩) 1 1) k1) _
  have hj' : RdJobs w6 (some ⟨b, 0, none⟩) exJobs := by rw [hw6]; exact Rd.at (Rd.setFar hj (fun x hx => by cases hx; show b ≠ B; omega)) ((Below.refl _ _).alloc (Nat.le_refl _) _)
  have HB6 := hid (show Below w.heap.size w w6 by rw [hw6]; exact (by repeat (first | (with_reducible exact HB2.out) | (with_reducible refine bdrewN ?_ _) | (with_reducible refine Below.drew ?_) | (with_reducible refine Below.setCell ?_ (by first | omega | (simp; done) | (simp; omega)) _) | (with_reducible refine Below.alloc ?_ (by first | omega | (simp; done) | (simp; omega)) _))))
  clear k1_0 k1_1 k1_2 k1_3 k1_4 k1_5 k1_6 k1_s
  clear hw6 k1z k1 hj HB2
  generalize w5.heap.size = F at *
  have hj := hj'
  have k1 := k1'
  clear hj' k1'
  (refine listF_step rfl (fun K' hK => ?_); unfold opF; go_simp; refine (exDay20_any hj kF).mono ?_; rintro e w7 ⟨a6, c6, n6, a7, c7, rfl, hl, hb7⟩; refine ⟨_, rfl, hK _ _ ?_⟩; clear hK K')
  replace k1 := k1.at hb7
  replace kF := kF.at hb7
  replace hj := Rd.at hj hb7
  have HB11 := hid (HB6.out.trans (hb7.mono HB6.out.size) : Below w.heap.size w w7)
  clear hb7 HB6
  have k1_0 := k1.cell 0 rfl
  have k1_1 := k1.cell 1 rfl
  have k1_2 := k1.cell 2 rfl
  have k1_3 := k1.cell 3 rfl
  have k1_4 := k1.cell 4 rfl
  have k1_5 := k1.cell 5 rfl
  have k1_6 := k1.cell 6 rfl
  have k1_s := k1.1
  (refine listF_abs ?_; intro s' hs'; have gl1 := congrFun hs' 1; simp only [updS_some, updS_none, Nat.reduceEqDiff, ↓reduceIte] at gl1; (try rw [sl1] at gl1); have gl2 := congrFun hs' 2; simp only [updS_some, updS_none, Nat.reduceEqDiff, ↓reduceIte] at gl2; (try rw [sl2] at gl2); have gl3 := congrFun hs' 3; simp only [updS_some, updS_none, Nat.reduceEqDiff, ↓reduceIte] at gl3; (try rw [sl3] at gl3); have gl4 := congrFun hs' 4; simp only [updS_some, updS_none, Nat.reduceEqDiff, ↓reduceIte] at gl4; (try rw [sl4] at gl4); have gl5 := congrFun hs' 5; simp only [updS_some, updS_none, Nat.reduceEqDiff, ↓reduceIte] at gl5; (try rw [sl5] at gl5); have gl39 := congrFun hs' 39; simp only [updS_some, updS_none, Nat.reduceEqDiff, ↓reduceIte] at gl39; (try rw [sl39] at gl39); clear hs'; (try clear sl1); (try clear sl2); (try clear sl3); (try clear sl4); (try clear sl5); (try clear sl39); have sl1 := gl1; clear gl1; have sl2 := gl2; clear gl2; have sl3 := gl3; clear gl3; have sl4 := gl4; clear gl4; have sl5 := gl5; clear gl5; have sl39 := gl39; clear gl39)
  repeat (first | ((first | (refine listF_step rfl (fun K' hK => ?_)) | (refine listF_yes rfl rfl (by decide) ?_ (fun K' hK => ?_); (focus (go_simp; done)))); unfold opF; go_simp; (refine hK _ _ ?_); clear hK K') | (refine listF_no (b' := true) rfl rfl (by decide) ?_ ?_ ?_; (focus (go_simp; done)); (focus rfl)) | (refine listF_no (b' := false) rfl rfl (by decide) ?_ ?_ ?_; (focus (go_simp; done)); (focus rfl)) | (refine listF_nu rfl rfl (by decide) ?_ ?_; (focus (go_simp; done))) | (refine listF_nil ?_) | (refine region_F ?_) | (refine cond_F true ?_ ?_; (focus (go_simp; done)); simp only [if_true]) | (refine cond_F false ?_ ?_; (focus (go_simp; done)); simp only [Bool.false_eq_true, if_false]) | (with_reducible go_step))
  (refine listF_abs ?_; intro s' hs'; have gl1 := congrFun hs' 1; simp only [updS_some, updS_none, Nat.reduceEqDiff, ↓reduceIte] at gl1; (try rw [sl1] at gl1); have gl2 := congrFun hs' 2; simp only [updS_some, updS_none, Nat.reduceEqDiff, ↓reduceIte] at gl2; (try rw [sl2] at gl2); have gl3 := congrFun hs' 3; simp only [updS_some, updS_none, Nat.reduceEqDiff, ↓reduceIte] at gl3; (try rw [sl3] at gl3); have gl4 := congrFun hs' 4; simp only [updS_some, updS_none, Nat.reduceEqDiff, ↓reduceIte] at gl4; (try rw [sl4] at gl4); have gl5 := congrFun hs' 5; simp only [updS_some, updS_none, Nat.reduceEqDiff, ↓reduceIte] at gl5; (try rw [sl5] at gl5); have gl6 := congrFun hs' 6; simp only [updS_some, updS_none, Nat.reduceEqDiff, ↓reduceIte] at gl6; (try rw [sl6] at gl6); have gl8 := congrFun hs' 8; simp only [updS_some, updS_none, Nat.reduceEqDiff, ↓reduceIte] at gl8; (try rw [sl8] at gl8); have gl44 := congrFun hs' 44; simp only [updS_some, updS_none, Nat.reduceEqDiff, ↓reduceIte] at gl44; (try rw [sl44] at gl44); clear hs'; (try clear sl1); (try clear sl2); (try clear sl3); (try clear sl4); (try clear sl5); (try clear sl6); (try clear sl8); (try clear sl44); have sl1 := gl1; clear gl1; have sl2 := gl2; clear gl2; have sl3 := gl3; clear gl3; have sl4 := gl4; clear gl4; have sl5 := gl5; clear gl5; have sl6 := gl6; clear gl6; have sl8 := gl8; clear gl8; have sl44 := gl44; clear gl44)
  refine listF_absw ?_
  intro w8 hw8
  have hb8 : Below w7.heap.size w7 w8 := by rw [hw8]; exact (by repeat (first | (with_reducible exact Below.refl _ w7) | (with_reducible refine bdrewN ?_ _) | (with_reducible refine Below.drew ?_) | (with_reducible refine Below.setCell ?_ (by first | omega | (simp; done) | (simp; omega)) _) | (with_reducible refine Below.alloc ?_ (by first | omega | (simp; done) | (simp; omega)) _)))
  clear hw8
  clear k1_0 k1_1 k1_2 k1_3 k1_4 k1_5 k1_6 k1_s
  replace k1 := k1.at hb8
  replace kF := kF.at hb8
  replace hj := Rd.at hj hb8
  replace hl := Rd.at hl hb8
  have HB12 := hid (HB11.out.trans (hb8.mono HB11.out.size) : Below w.heap.size w w8)
  clear hb8 HB11
  (refine listF_step rfl (fun K' hK => ?_); unfold opF; go_simp; refine (exDay40_any hj kF).mono ?_; rintro e w9 ⟨a9, c9, n9, a10, c10, rfl, hm, hb9⟩; refine ⟨_, rfl, hK _ _ ?_⟩; clear hK K')
  clear k1
  clear kF
  clear hj
  replace hl := Rd.at hl hb9
  have HB13 := hid (HB12.out.trans (hb9.mono HB12.out.size) : Below w.heap.size w w9)
  clear hb9 HB12
  (refine listF_abs ?_; intro s' hs'; have gl2 := congrFun hs' 2; simp only [updS_some, updS_none, Nat.reduceEqDiff, ↓reduceIte] at gl2; (try rw [sl2] at gl2); have gl3 := congrFun hs' 3; simp only [updS_some, updS_none, Nat.reduceEqDiff, ↓reduceIte] at gl3; (try rw [sl3] at gl3); have gl4 := congrFun hs' 4; simp only [updS_some, updS_none, Nat.reduceEqDiff, ↓reduceIte] at gl4; (try rw [sl4] at gl4); have gl5 := congrFun hs' 5; simp only [updS_some, updS_none, Nat.reduceEqDiff, ↓reduceIte] at gl5; (try rw [sl5] at gl5); have gl6 := congrFun hs' 6; simp only [updS_some, updS_none, Nat.reduceEqDiff, ↓reduceIte] at gl6; (try rw [sl6] at gl6); have gl8 := congrFun hs' 8; simp only [updS_some, updS_none, Nat.reduceEqDiff, ↓reduceIte] at gl8; (try rw [sl8] at gl8); have gl45 := congrFun hs' 45; simp only [updS_some, updS_none, Nat.reduceEqDiff, ↓reduceIte] at gl45; (try rw [sl45] at gl45); clear hs'; (try clear sl2); (try clear sl3); (try clear sl4); (try clear sl5); (try clear sl6); (try clear sl8); (try clear sl45); have sl2 := gl2; clear gl2; have sl3 := gl3; clear gl3; have sl4 := gl4; clear gl4; have sl5 := gl5; clear gl5; have sl6 := gl6; clear gl6; have sl8 := gl8; clear gl8; have sl45 := gl45; clear gl45)
  repeat (first | ((first | (refine listF_step rfl (fun K' hK => ?_)) | (refine listF_yes rfl rfl (by decide) ?_ (fun K' hK => ?_); (focus (go_simp; done)))); unfold opF; go_simp; (refine hK _ _ ?_); clear hK K') | (refine listF_no (b' := true) rfl rfl (by decide) ?_ ?_ ?_; (focus (go_simp; done)); (focus rfl)) | (refine listF_no (b' := false) rfl rfl (by decide) ?_ ?_ ?_; (focus (go_simp; done)); (focus rfl)) | (refine listF_nu rfl rfl (by decide) ?_ ?_; (focus (go_simp; done))) | (refine listF_nil ?_) | (refine region_F ?_) | (refine cond_F true ?_ ?_; (focus (go_simp; done)); simp only [if_true]) | (refine cond_F false ?_ ?_; (focus (go_simp; done)); simp only [Bool.false_eq_true, if_false]) | (with_reducible go_step))
  (refine listF_abs ?_; intro s' hs'; have gl2 := congrFun hs' 2; simp only [updS_some, updS_none, Nat.reduceEqDiff, ↓reduceIte] at gl2; (try rw [sl2] at gl2); have gl3 := congrFun hs' 3; simp only [updS_some, updS_none, Nat.reduceEqDiff, ↓reduceIte] at gl3; (try rw [sl3] at gl3); have gl4 := congrFun hs' 4; simp only [updS_some, updS_none, Nat.reduceEqDiff, ↓reduceIte] at gl4; (try rw [sl4] at gl4); have gl5 := congrFun hs' 5; simp only [updS_some, updS_none, Nat.reduceEqDiff, ↓reduceIte] at gl5; (try rw [sl5] at gl5); have gl6 := congrFun hs' 6; simp only [updS_some, updS_none, Nat.reduceEqDiff, ↓reduceIte] at gl6; (try rw [sl6] at gl6); have gl8 := congrFun hs' 8; simp only [updS_some, updS_none, Nat.reduceEqDiff, ↓reduceIte] at gl8; (try rw [sl8] at gl8); have gl9 := congrFun hs' 9; simp only [updS_some, updS_none, Nat.reduceEqDiff, ↓reduceIte] at gl9; (try rw [sl9] at gl9); have gl11 := congrFun hs' 11; simp only [updS_some, updS_none, Nat.reduceEqDiff, ↓reduceIte] at gl11; (try rw [sl11] at gl11); clear hs'; (try clear sl2); (try clear sl3); (try clear sl4); (try clear sl5); (try clear sl6); (try clear sl8); (try clear sl9); (try clear sl11); have sl2 := gl2; clear gl2; have sl3 := gl3; clear gl3; have sl4 := gl4; clear gl4; have sl5 := gl5; clear gl5; have sl6 := gl6; clear gl6; have sl8 := gl8; clear gl8; have sl9 := gl9; clear gl9; have sl11 := gl11; clear gl11)
  refine listF_absw ?_
  intro wa hwa
  have hba : Below w9.heap.size w9 wa := by rw [hwa]; exact (by repeat (first | (with_reducible exact Below.refl _ w9) | (with_reducible refine bdrewN ?_ _) | (with_reducible refine Below.drew ?_) | (with_reducible refine Below.setCell ?_ (by first | omega | (simp; done) | (simp; omega)) _) | (with_reducible refine Below.alloc ?_ (by first | omega | (simp; done) | (simp; omega)) _)))
  clear hwa
  replace hl := Rd.at hl hba
  replace hm := Rd.at hm hba
  have HB14 := hid (HB13.out.trans (hba.mono HB13.out.size) : Below w.heap.size w wa)
  clear hba HB13
  (refine listF_step rfl (fun K' hK => ?_); unfold opF; go_simp; refine (spell_any _ _ _ _ _).mono ?_; rintro e wb ⟨rfl, hbwb⟩; refine ⟨_, rfl, hK _ _ ?_⟩; clear hK K')
  replace hl := Rd.at hl hbwb
  replace hm := Rd.at hm hbwb
  have HB15 := hid (HB14.out.trans (hbwb.mono HB14.out.size) : Below w.heap.size w wb)
  clear hbwb HB14
  (refine listF_abs ?_; intro s' hs'; have gl2 := congrFun hs' 2; simp only [updS_some, updS_none, Nat.reduceEqDiff, ↓reduceIte] at gl2; (try rw [sl2] at gl2); have gl3 := congrFun hs' 3; simp only [updS_some, updS_none, Nat.reduceEqDiff, ↓reduceIte] at gl3; (try rw [sl3] at gl3); have gl4 := congrFun hs' 4; simp only [updS_some, updS_none, Nat.reduceEqDiff, ↓reduceIte] at gl4; (try rw [sl4] at gl4); have gl5 := congrFun hs' 5; simp only [updS_some, updS_none, Nat.reduceEqDiff, ↓reduceIte] at gl5; (try rw [sl5] at gl5); have gl6 := congrFun hs' 6; simp only [updS_some, updS_none, Nat.reduceEqDiff, ↓reduceIte] at gl6; (try rw [sl6] at gl6); have gl8 := congrFun hs' 8; simp only [updS_some, updS_none, Nat.reduceEqDiff, ↓reduceIte] at gl8; (try rw [sl8] at gl8); have gl9 := congrFun hs' 9; simp only [updS_some, updS_none, Nat.reduceEqDiff, ↓reduceIte] at gl9; (try rw [sl9] at gl9); have gl11 := congrFun hs' 11; simp only [updS_some, updS_none, Nat.reduceEqDiff, ↓reduceIte] at gl11; (try rw [sl11] at gl11); have gl49 := congrFun hs' 49; simp only [updS_some, updS_none, Nat.reduceEqDiff, ↓reduceIte] at gl49; (try rw [sl49] at gl49); clear hs'; (try clear sl2); (try clear sl3); (try clear sl4); (try clear sl5); (try clear sl6); (try clear sl8); (try clear sl9); (try clear sl11); (try clear sl49); have sl2 := gl2; clear gl2; have sl3 := gl3; clear gl3; have sl4 := gl4; clear gl4; have sl5 := gl5; clear gl5; have sl6 := gl6; clear gl6; have sl8 := gl8; clear gl8; have sl9 := gl9; clear gl9; have sl11 := gl11; clear gl11; have sl49 := gl49; clear gl49)
  (refine listF_step rfl (fun K' hK => ?_); unfold opF; go_simp; refine (spell_any _ _ _ _ _).mono ?_; rintro e wc ⟨rfl, hbwc⟩; refine ⟨_, rfl, hK _ _ ?_⟩; clear hK K')
  replace hl := Rd.at hl hbwc
  replace hm := Rd.at hm hbwc
  have HB16 := hid (HB15.out.trans (hbwc.mono HB15.out.size) : Below w.heap.size w wc)
  clear hbwc HB15
  (refine listF_abs ?_; intro s' hs'; have gl2 := congrFun hs' 2; simp only [updS_some, updS_none, Nat.reduceEqDiff, ↓reduceIte] at gl2; (try rw [sl2] at gl2); have gl3 := congrFun hs' 3; simp only [updS_some, updS_none, Nat.reduceEqDiff, ↓reduceIte] at gl3; (try rw [sl3] at gl3); have gl4 := congrFun hs' 4; simp only [updS_some, updS_none, Nat.reduceEqDiff, ↓reduceIte] at gl4; (try rw [sl4] at gl4); have gl5 := congrFun hs' 5; simp only [updS_some, updS_none, Nat.reduceEqDiff, ↓reduceIte] at gl5; (try rw [sl5] at gl5); have gl6 := congrFun hs' 6; simp only [updS_some, updS_none, Nat.reduceEqDiff, ↓reduceIte] at gl6; (try rw [sl6] at gl6); have gl8 := congrFun hs' 8; simp only [updS_some, updS_none, Nat.reduceEqDiff, ↓reduceIte] at gl8; (try rw [sl8] at gl8); have gl9 := congrFun hs' 9; simp only [updS_some, updS_none, Nat.reduceEqDiff, ↓reduceIte] at gl9; (try rw [sl9] at gl9); have gl11 := congrFun hs' 11; simp only [updS_some, updS_none, Nat.reduceEqDiff, ↓reduceIte] at gl11; (try rw [sl11] at gl11); have gl49 := congrFun hs' 49; simp only [updS_some, updS_none, Nat.reduceEqDiff, ↓reduceIte] at gl49; (try rw [sl49] at gl49); have gl50 := congrFun hs' 50; simp only [updS_some, updS_none, Nat.reduceEqDiff, ↓reduceIte] at gl50; (try rw [sl50] at gl50); clear hs'; (try clear sl2); (try clear sl3); (try clear sl4); (try clear sl5); (try clear sl6); (try clear sl8); (try clear sl9); (try clear sl11); (try clear sl49); (try clear sl50); have sl2 := gl2; clear gl2; have sl3 := gl3; clear gl3; have sl4 := gl4; clear gl4; have sl5 := gl5; clear gl5; have sl6 := gl6; clear gl6; have sl8 := gl8; clear gl8; have sl9 := gl9; clear gl9; have sl11 := gl11; clear gl11; have sl49 := gl49; clear gl49; have sl50 := gl50; clear gl50)
  (refine listF_step rfl (fun K' hK => ?_); unfold opF; go_simp; refine (spell_any _ _ _ _ _).mono ?_; rintro e wd ⟨rfl, hbwd⟩; refine ⟨_, rfl, hK _ _ ?_⟩; clear hK K')
  replace hl := Rd.at hl hbwd
  replace hm := Rd.at hm hbwd
  have HB17 := hid (HB16.out.trans (hbwd.mono HB16.out.size) : Below w.heap.size w wd)
  clear hbwd HB16
  (refine listF_abs ?_; intro s' hs'; have gl2 := congrFun hs' 2; simp only [updS_some, updS_none, Nat.reduceEqDiff, ↓reduceIte] at gl2; (try rw [sl2] at gl2); have gl3 := congrFun hs' 3; simp only [updS_some, updS_none, Nat.reduceEqDiff, ↓reduceIte] at gl3; (try rw [sl3] at gl3); have gl4 := congrFun hs' 4; simp only [updS_some, updS_none, Nat.reduceEqDiff, ↓reduceIte] at gl4; (try rw [sl4] at gl4); have gl5 := congrFun hs' 5; simp only [updS_some, updS_none, Nat.reduceEqDiff, ↓reduceIte] at gl5; (try rw [sl5] at gl5); have gl6 := congrFun hs' 6; simp only [updS_some, updS_none, Nat.reduceEqDiff, ↓reduceIte] at gl6; (try rw [sl6] at gl6); have gl8 := congrFun hs' 8; simp only [updS_some, updS_none, Nat.reduceEqDiff, ↓reduceIte] at gl8; (try rw [sl8] at gl8); have gl9 := congrFun hs' 9; simp only [updS_some, updS_none, Nat.reduceEqDiff, ↓reduceIte] at gl9; (try rw [sl9] at gl9); have gl11 := congrFun hs' 11; simp only [updS_some, updS_none, Nat.reduceEqDiff, ↓reduceIte] at gl11; (try rw [sl11] at gl11); have gl49 := congrFun hs' 49; simp only [updS_some, updS_none, Nat.reduceEqDiff, ↓reduceIte] at gl49; (try rw [sl49] at gl49); have gl50 := congrFun hs' 50; simp only [updS_some, updS_none, Nat.reduceEqDiff, ↓reduceIte] at gl50; (try rw [sl50] at gl50); have gl51 := congrFun hs' 51; simp only [updS_some, updS_none, Nat.reduceEqDiff, ↓reduceIte] at gl51; (try rw [sl51] at gl51); clear hs'; (try clear sl2); (try clear sl3); (try clear sl4); (try clear sl5); (try clear sl6); (try clear sl8); (try clear sl9); (try clear sl11); (try clear sl49); (try clear sl50); (try clear sl51); have sl2 := gl2; clear gl2; have sl3 := gl3; clear gl3; have sl4 := gl4; clear gl4; have sl5 := gl5; clear gl5; have sl6 := gl6; clear gl6; have sl8 := gl8; clear gl8; have sl9 := gl9; clear gl9; have sl11 := gl11; clear gl11; have sl49 := gl49; clear gl49; have sl50 := gl50; clear gl50; have sl51 := gl51; clear gl51)
  repeat (first | ((first | (refine listF_step rfl (fun K' hK => ?_)) | (refine listF_yes rfl rfl (by decide) ?_ (fun K' hK => ?_); (focus (go_simp; done)))); unfold opF; go_simp; (refine hK _ _ ?_); clear hK K') | (refine listF_no (b' := true) rfl rfl (by decide) ?_ ?_ ?_; (focus (go_simp; done)); (focus rfl)) | (refine listF_no (b' := false) rfl rfl (by decide) ?_ ?_ ?_; (focus (go_simp; done)); (focus rfl)) | (refine listF_nu rfl rfl (by decide) ?_ ?_; (focus (go_simp; done))) | (refine listF_nil ?_) | (refine region_F ?_) | (refine cond_F true ?_ ?_; (focus (go_simp; done)); simp only [if_true]) | (refine cond_F false ?_ ?_; (focus (go_simp; done)); simp only [Bool.false_eq_true, if_false]) | (with_reducible go_step))
  refine listF_absw ?_
  intro we hwe
  have ho := ownS_made hwe
  have kS := kS_made hwe
  have hbe : Below wd.heap.size wd we := by rw [hwe]; exact (by repeat (first | (with_reducible exact Below.refl _ wd) | (with_reducible refine bdrewN ?_ _) | (with_reducible refine Below.drew ?_) | (with_reducible refine Below.setCell ?_ (by first | omega | (simp; done) | (simp; omega)) _) | (with_reducible refine Below.alloc ?_ (by first | omega | (simp; done) | (simp; omega)) _)))
  clear hwe
  have hmd := hid hm
  have HD := hid hbe
  have HWD := HB17
  clear hm
  replace hl := Rd.at hl hbe
  have HB18 := hid (HB17.out.trans (hbe.mono HB17.out.size) : Below w.heap.size w we)
  clear hbe HB17
  have HO := hid (show OwnSpells wd.heap.size we (.slice (some ⟨wd.heap.size, 0, none⟩) 3 3) exShort from ho)
  clear ho
  (refine listF_abs ?_; intro s' hs'; have gl9 := congrFun hs' 9; simp only [updS_some, updS_none, Nat.reduceEqDiff, ↓reduceIte] at gl9; (try rw [sl9] at gl9); have gl12 := congrFun hs' 12; simp only [updS_some, updS_none, Nat.reduceEqDiff, ↓reduceIte] at gl12; (try rw [sl12] at gl12); have gl75 := congrFun hs' 75; simp only [updS_some, updS_none, Nat.reduceEqDiff, ↓reduceIte] at gl75; (try rw [sl75] at gl75); have gl76 := congrFun hs' 76; simp only [updS_some, updS_none, Nat.reduceEqDiff, ↓reduceIte] at gl76; (try rw [sl76] at gl76); have gl77 := congrFun hs' 77; simp only [updS_some, updS_none, Nat.reduceEqDiff, ↓reduceIte] at gl77; (try rw [sl77] at gl77); clear hs'; (try clear sl9); (try clear sl12); (try clear sl75); (try clear sl76); (try clear sl77); have sl9 := gl9; clear gl9; have sl12 := gl12; clear gl12; have sl75 := gl75; clear gl75; have sl76 := gl76; clear gl76; have sl77 := gl77; clear gl77)
  (refine listF_yes rfl rfl (by decide) ?_ (fun K' hK => ?_); (focus (go_simp; done)); unfold opF; go_simp; refine (rspells_any a6 (some ⟨wd.heap.size, 0, none⟩) c6 3 exShort exShort _ (by decide) (by decide) hl (Cells.rd (f := Spell.cs) (m := 4) (l := exShort) (fun _ => rfl) kS)).mono ?_; rintro e wf ⟨rfl, hbf⟩; refine ⟨_, rfl, hK _ _ ?_⟩; clear hK K')
  rw [show decide (exShort = exShort) = true from decide_eq_true rfl]
  clear kS hl
  replace HO := hid (Own.at HO.out hbf)
  replace HD := hid (HD.out.trans (hbf.mono HD.out.size) : Below wd.heap.size wd _)
  have HB19 := hid (HB18.out.trans (hbf.mono HB18.out.size) : Below w.heap.size w wf)
  clear hbf HB18
  (refine listF_abs ?_; intro s' hs'; have gl9 := congrFun hs' 9; simp only [updS_some, updS_none, Nat.reduceEqDiff, ↓reduceIte] at gl9; (try rw [sl9] at gl9); have gl12 := congrFun hs' 12; simp only [updS_some, updS_none, Nat.reduceEqDiff, ↓reduceIte] at gl12; (try rw [sl12] at gl12); have gl75 := congrFun hs' 75; simp only [updS_some, updS_none, Nat.reduceEqDiff, ↓reduceIte] at gl75; (try rw [sl75] at gl75); have gl78 := congrFun hs' 78; simp only [updS_some, updS_none, Nat.reduceEqDiff, ↓reduceIte] at gl78; (try rw [sl78] at gl78); clear hs'; (try clear sl9); (try clear sl12); (try clear sl75); (try clear sl78); have sl9 := gl9; clear gl9; have sl12 := gl12; clear gl12; have sl75 := gl75; clear gl75; have sl78 := gl78; clear gl78)
  repeat (first | ((first | (refine listF_step rfl (fun K' hK => ?_)) | (refine listF_yes rfl rfl (by decide) ?_ (fun K' hK => ?_); (focus (go_simp; done)))); unfold opF; go_simp; (refine hK _ _ ?_); clear hK K') | (refine listF_no (b' := true) rfl rfl (by decide) ?_ ?_ ?_; (focus (go_simp; done)); (focus rfl)) | (refine listF_no (b' := false) rfl rfl (by decide) ?_ ?_ ?_; (focus (go_simp; done)); (focus rfl)) | (refine listF_nu rfl rfl (by decide) ?_ ?_; (focus (go_simp; done))) | (refine listF_nil ?_) | (refine region_F ?_) | (refine cond_F true ?_ ?_; (focus (go_simp; done)); simp only [if_true]) | (refine cond_F false ?_ ?_; (focus (go_simp; done)); simp only [Bool.false_eq_true, if_false]) | (with_reducible go_step))
  (refine listF_abs ?_; intro s' hs'; have gl80 := congrFun hs' 80; simp only [updS_some, updS_none, Nat.reduceEqDiff, ↓reduceIte] at gl80; (try rw [sl80] at gl80); have gl81 := congrFun hs' 81; simp only [updS_some, updS_none, Nat.reduceEqDiff, ↓reduceIte] at gl81; (try rw [sl81] at gl81); have gl82 := congrFun hs' 82; simp only [updS_some, updS_none, Nat.reduceEqDiff, ↓reduceIte] at gl82; (try rw [sl82] at gl82); clear hs'; (try clear sl80); (try clear sl81); (try clear sl82); have sl80 := gl80; clear gl80; have sl81 := gl81; clear gl81; have sl82 := gl82; clear gl82)
  (refine listF_yes rfl rfl (by decide) ?_ (fun K' hK => ?_); (focus (go_simp; done)); unfold opF; go_simp; refine (spell_any _ _ _ _ _).mono ?_; rintro e wg ⟨rfl, hbwg⟩; refine ⟨_, rfl, hK _ _ ?_⟩; clear hK K')
  replace HO := hid (Own.at HO.out hbwg)
  replace HD := hid (HD.out.trans (hbwg.mono HD.out.size) : Below wd.heap.size wd _)
  have HB20 := hid (HB19.out.trans (hbwg.mono HB19.out.size) : Below w.heap.size w wg)
  clear hbwg HB19
  (refine listF_abs ?_; intro s' hs'; have gl80 := congrFun hs' 80; simp only [updS_some, updS_none, Nat.reduceEqDiff, ↓reduceIte] at gl80; (try rw [sl80] at gl80); have gl81 := congrFun hs' 81; simp only [updS_some, updS_none, Nat.reduceEqDiff, ↓reduceIte] at gl81; (try rw [sl81] at gl81); have gl82 := congrFun hs' 82; simp only [updS_some, updS_none, Nat.reduceEqDiff, ↓reduceIte] at gl82; (try rw [sl82] at gl82); have gl83 := congrFun hs' 83; simp only [updS_some, updS_none, Nat.reduceEqDiff, ↓reduceIte] at gl83; (try rw [sl83] at gl83); clear hs'; (try clear sl80); (try clear sl81); (try clear sl82); (try clear sl83); have sl80 := gl80; clear gl80; have sl81 := gl81; clear gl81; have sl82 := gl82; clear gl82; have sl83 := gl83; clear gl83)
  (refine listF_yes rfl rfl (by decide) ?_ (fun K' hK => ?_); (focus (go_simp; done)); unfold opF; go_simp; refine (spell_any _ _ _ _ _).mono ?_; rintro e wh ⟨rfl, hbwh⟩; refine ⟨_, rfl, hK _ _ ?_⟩; clear hK K')
  replace HO := hid (Own.at HO.out hbwh)
  replace HD := hid (HD.out.trans (hbwh.mono HD.out.size) : Below wd.heap.size wd _)
  have HB21 := hid (HB20.out.trans (hbwh.mono HB20.out.size) : Below w.heap.size w wh)
  clear hbwh HB20
  (refine listF_abs ?_; intro s' hs'; have gl80 := congrFun hs' 80; simp only [updS_some, updS_none, Nat.reduceEqDiff, ↓reduceIte] at gl80; (try rw [sl80] at gl80); have gl81 := congrFun hs' 81; simp only [updS_some, updS_none, Nat.reduceEqDiff, ↓reduceIte] at gl81; (try rw [sl81] at gl81); have gl82 := congrFun hs' 82; simp only [updS_some, updS_none, Nat.reduceEqDiff, ↓reduceIte] at gl82; (try rw [sl82] at gl82); have gl83 := congrFun hs' 83; simp only [updS_some, updS_none, Nat.reduceEqDiff, ↓reduceIte] at gl83; (try rw [sl83] at gl83); have gl84 := congrFun hs' 84; simp only [updS_some, updS_none, Nat.reduceEqDiff, ↓reduceIte] at gl84; (try rw [sl84] at gl84); clear hs'; (try clear sl80); (try clear sl81); (try clear sl82); (try clear sl83); (try clear sl84); have sl80 := gl80; clear gl80; have sl81 := gl81; clear gl81; have sl82 := gl82; clear gl82; have sl83 := gl83; clear gl83; have sl84 := gl84; clear gl84)
  (refine listF_yes rfl rfl (by decide) ?_ (fun K' hK => ?_); (focus (go_simp; done)); unfold opF; go_simp; refine (spell_any _ _ _ _ _).mono ?_; rintro e wi ⟨rfl, hbwi⟩; refine ⟨_, rfl, hK _ _ ?_⟩; clear hK K')
  replace HO := hid (Own.at HO.out hbwi)
  replace HD := hid (HD.out.trans (hbwi.mono HD.out.size) : Below wd.heap.size wd _)
  have HB22 := hid (HB21.out.trans (hbwi.mono HB21.out.size) : Below w.heap.size w wi)
  clear hbwi HB21
  (refine listF_abs ?_; intro s' hs'; have gl80 := congrFun hs' 80; simp only [updS_some, updS_none, Nat.reduceEqDiff, ↓reduceIte] at gl80; (try rw [sl80] at gl80); have gl81 := congrFun hs' 81; simp only [updS_some, updS_none, Nat.reduceEqDiff, ↓reduceIte] at gl81; (try rw [sl81] at gl81); have gl82 := congrFun hs' 82; simp only [updS_some, updS_none, Nat.reduceEqDiff, ↓reduceIte] at gl82; (try rw [sl82] at gl82); have gl83 := congrFun hs' 83; simp only [updS_some, updS_none, Nat.reduceEqDiff, ↓reduceIte] at gl83; (try rw [sl83] at gl83); have gl84 := congrFun hs' 84; simp only [updS_some, updS_none, Nat.reduceEqDiff, ↓reduceIte] at gl84; (try rw [sl84] at gl84); have gl85 := congrFun hs' 85; simp only [updS_some, updS_none, Nat.reduceEqDiff, ↓reduceIte] at gl85; (try rw [sl85] at gl85); clear hs'; (try clear sl80); (try clear sl81); (try clear sl82); (try clear sl83); (try clear sl84); (try clear sl85); have sl80 := gl80; clear gl80; have sl81 := gl81; clear gl81; have sl82 := gl82; clear gl82; have sl83 := gl83; clear gl83; have sl84 := gl84; clear gl84; have sl85 := gl85; clear gl85)
  repeat (first | ((first | (refine listF_step rfl (fun K' hK => ?_)) | (refine listF_yes rfl rfl (by decide) ?_ (fun K' hK => ?_); (focus (go_simp; done)))); unfold opF; go_simp; (refine hK _ _ ?_); clear hK K') | (refine listF_no (b' := true) rfl rfl (by decide) ?_ ?_ ?_; (focus (go_simp; done)); (focus rfl)) | (refine listF_no (b' := false) rfl rfl (by decide) ?_ ?_ ?_; (focus (go_simp; done)); (focus rfl)) | (refine listF_nu rfl rfl (by decide) ?_ ?_; (focus (go_simp; done))) | (refine listF_nil ?_) | (refine region_F ?_) | (refine cond_F true ?_ ?_; (focus (go_simp; done)); simp only [if_true]) | (refine cond_F false ?_ ?_; (focus (go_simp; done)); simp only [Bool.false_eq_true, if_false]) | (with_reducible go_step))
  refine listF_absw ?_
  intro wj hwj
  have kT := kT_made hwj
  have hbj : Below wi.heap.size wi wj := by rw [hwj]; exact (by repeat (first | (with_reducible exact Below.refl _ wi) | (with_reducible refine bdrewN ?_ _) | (with_reducible refine Below.drew ?_) | (with_reducible refine Below.setCell ?_ (by first | omega | (simp; done) | (simp; omega)) _) | (with_reducible refine Below.alloc ?_ (by first | omega | (simp; done) | (simp; omega)) _)))
  clear hwj
  replace HO := hid (Own.at HO.out hbj)
  replace HD := hid (HD.out.trans (hbj.mono HD.out.size) : Below wd.heap.size wd _)
  have HB23 := hid (HB22.out.trans (hbj.mono HB22.out.size) : Below w.heap.size w wj)
  clear hbj HB22
  (refine listF_abs ?_; intro s' hs'; have gl80 := congrFun hs' 80; simp only [updS_some, updS_none, Nat.reduceEqDiff, ↓reduceIte] at gl80; (try rw [sl80] at gl80); have gl81 := congrFun hs' 81; simp only [updS_some, updS_none, Nat.reduceEqDiff, ↓reduceIte] at gl81; (try rw [sl81] at gl81); have gl82 := congrFun hs' 82; simp only [updS_some, updS_none, Nat.reduceEqDiff, ↓reduceIte] at gl82; (try rw [sl82] at gl82); have gl86 := congrFun hs' 86; simp only [updS_some, updS_none, Nat.reduceEqDiff, ↓reduceIte] at gl86; (try rw [sl86] at gl86); clear hs'; (try clear sl80); (try clear sl81); (try clear sl82); (try clear sl86); have sl80 := gl80; clear gl80; have sl81 := gl81; clear gl81; have sl82 := gl82; clear gl82; have sl86 := gl86; clear gl86)
  have hsd := HD.out.size
  refine listF_yes rfl rfl (by decide) ?_ (fun K' hK => ?_)
  · go_simp
  refine opF_of_wp (d := 87) rfl (by decide) (fun K1 Q1 hK1 => wp_append_own _ _ _ 44 rfl wd.heap.size 40 i0 _ 4 32 Try.underlying44 hi0 hz0 hz1 hz2 rfl (by decide) (.slice (some ⟨wd.heap.size, 0, none⟩) 3 3) 3 (exShort.flatMap Spell.cs) (by rw [mkA_eval]; go_simp) HO.out ⟨wi.heap.size, 0, none⟩ 3 3 (exMore.flatMap Spell.cs) (by rw [mkA_eval]; go_simp) rfl kT.news (st_one_sp _) (by unfold maxLen; omega) (by omega) (by omega) (fun v5 w6 ho5 hg5 _ => hK1 _ _ (hK _ _ ?_)))
  clear hK
  obtain ⟨g5, cap5, rfl⟩ := own_pos' ho5 (by omega)
  have hb6 : Below wd.heap.size wd w6 := HD.out.grown hg5 HD.out.size (fun g hg => by cases hg; exact Nat.le_refl _)
  have hO6 : OwnSpells wd.heap.size w6 (.slice (some ⟨g5, 0, none⟩) 6 cap5) (exShort ++ exMore) := ho5
  have hrd := Own.rd' (f := Spell.cs) (m := 4) (fun _ => rfl) hO6 rfl
  have hm6 := Rd.at hmd.out hb6
  have HB6 := hid (HWD.out.trans (hb6.mono (by have := HWD.out.size; omega)) : Below w.heap.size w w6)
  clear ho5 hg5 hO6 kT HO HD hb6
  (refine listF_abs ?_; intro s' hs'; have gl80 := congrFun hs' 80; simp only [updS_some, updS_none, Nat.reduceEqDiff, ↓reduceIte] at gl80; (try rw [sl80] at gl80); have gl81 := congrFun hs' 81; simp only [updS_some, updS_none, Nat.reduceEqDiff, ↓reduceIte] at gl81; (try rw [sl81] at gl81); have gl87 := congrFun hs' 87; simp only [updS_some, updS_none, Nat.reduceEqDiff, ↓reduceIte] at gl87; (try rw [sl87] at gl87); clear hs'; (try clear sl80); (try clear sl81); (try clear sl87); have sl80 := gl80; clear gl80; have sl81 := gl81; clear gl81; have sl87 := gl87; clear gl87)
  (refine listF_yes rfl rfl (by decide) ?_ (fun K' hK => ?_); (focus (go_simp; done)); unfold opF; go_simp; refine (rspells_any a9 (some ⟨g5, 0, none⟩) c9 cap5 (exShort ++ exMore) (exShort ++ exMore) _ (by decide) (by decide) hm6 hrd).mono ?_; rintro e wk ⟨rfl, hbk⟩; refine ⟨_, rfl, hK _ _ ?_⟩; clear hK K')
  rw [show decide (exShort ++ exMore = exShort ++ exMore) = true from decide_eq_true rfl]
  have HB41 := hid (HB6.out.trans (hbk.mono HB6.out.size) : Below w.heap.size w wk)
  clear hbk HB6
  (refine listF_abs ?_; intro s' hs'; have gl80 := congrFun hs' 80; simp only [updS_some, updS_none, Nat.reduceEqDiff, ↓reduceIte] at gl80; (try rw [sl80] at gl80); have gl88 := congrFun hs' 88; simp only [updS_some, updS_none, Nat.reduceEqDiff, ↓reduceIte] at gl88; (try rw [sl88] at gl88); clear hs'; (try clear sl80); (try clear sl88); have sl80 := gl80; clear gl80; have sl88 := gl88; clear gl88)
  repeat (first | ((first | (refine listF_step rfl (fun K' hK => ?_)) | (refine listF_yes rfl rfl (by decide) ?_ (fun K' hK => ?_); (focus (go_simp; done)))); unfold opF; go_simp; (refine hK _ _ ?_); clear hK K') | (refine listF_no (b' := true) rfl rfl (by decide) ?_ ?_ ?_; (focus (go_simp; done)); (focus rfl)) | (refine listF_no (b' := false) rfl rfl (by decide) ?_ ?_ ?_; (focus (go_simp; done)); (focus rfl)) | (refine listF_nu rfl rfl (by decide) ?_ ?_; (focus (go_simp; done))) | (refine listF_nil ?_) | (refine region_F ?_) | (refine cond_F true ?_ ?_; (focus (go_simp; done)); simp only [if_true]) | (refine cond_F false ?_ ?_; (focus (go_simp; done)); simp only [Bool.false_eq_true, if_false]) | (with_reducible go_step))
  (refine listF_yes rfl rfl (by decide) ?_ (fun K' hK => ?_); (focus (go_simp; done)); unfold opF; go_simp; refine (awake_any _).mono ?_; rintro e wl ⟨rfl, hbl⟩; refine ⟨_, rfl, hK _ _ ?_⟩; clear hK K')
  have HB42 := hid (HB41.out.trans (hbl.mono HB41.out.size) : Below w.heap.size w wl)
  clear hbl HB41
  repeat (first | ((first | (refine listF_step rfl (fun K' hK => ?_)) | (refine listF_yes rfl rfl (by decide) ?_ (fun K' hK => ?_); (focus (go_simp; done)))); unfold opF; go_simp; (refine hK _ _ ?_); clear hK K') | (refine listF_no (b' := true) rfl rfl (by decide) ?_ ?_ ?_; (focus (go_simp; done)); (focus rfl)) | (refine listF_no (b' := false) rfl rfl (by decide) ?_ ?_ ?_; (focus (go_simp; done)); (focus rfl)) | (refine listF_nu rfl rfl (by decide) ?_ ?_; (focus (go_simp; done))) | (refine listF_nil ?_) | (refine region_F ?_) | (refine cond_F true ?_ ?_; (focus (go_simp; done)); simp only [if_true]) | (refine cond_F false ?_ ?_; (focus (go_simp; done)); simp only [Bool.false_eq_true, if_false]) | (with_reducible go_step))
  exact ret_F (.bool true) (res1_F Try.results7 (by decide) (by go_simp)) ⟨rfl, HB42.out⟩

end Go.Proofs.Ytbjgebbfachgfaa
