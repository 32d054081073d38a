/- Awake: its walk. -/
import Derived.Test.YtbjgebbfachgfaacW42t
set_option linter.unusedVariables false
set_option linter.unusedSimpArgs false
set_option linter.unusedSectionVars false
set_option linter.all false
namespace Go.Proofs.Ytbjgebbfachgfaa
open Go.RowKit

set_option maxRecDepth 100000 in
set_option maxHeartbeats 8000000 in
theorem awake_any (w : World) : Calls Try.prog 21 #[] w fun e w' => e = .returned (.bool true) ∧ Below w.heap.size w w' := by
  refine enter_F Try.func21 rfl Try.ntmps21 (by simp) ?_
  intro s _
  repeat (first | ((first | (refine listF_step rfl (fun K' hK => ?_)) | (refine listF_yes rfl rfl (by decide) ?_ (fun K' hK => ?_); (focus (go_simp; done)))); unfold opF; go_simp; (refine hK _ _ ?_); clear hK K') | (refine listF_no (b' := true) rfl rfl (by decide) ?_ ?_ ?_; (focus (go_simp; done)); (focus rfl)) | (refine listF_no (b' := false) rfl rfl (by decide) ?_ ?_ ?_; (focus (go_simp; done)); (focus rfl)) | (refine listF_nu rfl rfl (by decide) ?_ ?_; (focus (go_simp; done))) | (refine listF_nil ?_) | (refine region_F ?_) | (refine cond_F true ?_ ?_; (focus (go_simp; done)); simp only [if_true]) | (refine cond_F false ?_ ?_; (focus (go_simp; done)); simp only [Bool.false_eq_true, if_false]) | (with_reducible go_step))
  (refine listF_step rfl (fun K' hK => ?_); unfold opF; go_simp; refine (lwork_any _).mono ?_; rintro e w2 ⟨b, rfl, hb0, hj, hb2⟩; refine ⟨_, rfl, hK _ _ ?_⟩; clear hK K')
  (refine listF_abs ?_; intro s' hs'; have gl18 := congrFun hs' 18; simp only [updS_some, updS_none, Nat.reduceEqDiff, ↓reduceIte] at gl18; (try rw [sl18] at gl18); clear hs'; (try clear sl18); have sl18 := gl18; clear gl18)
  repeat (first | ((first | (refine listF_step rfl (fun K' hK => ?_)) | (refine listF_yes rfl rfl (by decide) ?_ (fun K' hK => ?_); (focus (go_simp; done)))); unfold opF; go_simp; (refine hK _ _ ?_); clear hK K') | (refine listF_no (b' := true) rfl rfl (by decide) ?_ ?_ ?_; (focus (go_simp; done)); (focus rfl)) | (refine listF_no (b' := false) rfl rfl (by decide) ?_ ?_ ?_; (focus (go_simp; done)); (focus rfl)) | (refine listF_nu rfl rfl (by decide) ?_ ?_; (focus (go_simp; done))) | (refine listF_nil ?_) | (refine region_F ?_) | (refine cond_F true ?_ ?_; (focus (go_simp; done)); simp only [if_true]) | (refine cond_F false ?_ ?_; (focus (go_simp; done)); simp only [Bool.false_eq_true, if_false]) | (with_reducible go_step))
  refine listF_absw ?_
  intro w3 hw3
  have k1 : Cells w3 w2.heap.size [.int .i64 10, .int .i64 2, .int .i64 1, .int .i64 30, .int .i64 5, .slice (some ⟨b, 0, none⟩) 3 3, .slice none 0 0] := by rw [hw3]; exact Cells.new (cs := #[.int .i64 10, .int .i64 2, .int .i64 1, .int .i64 30, .int .i64 5, .slice (some ⟨b, 0, none⟩) 3 3, .slice none 0 0]) rfl
  have hb3 : Below w2.heap.size w2 w3 := by rw [hw3]; exact (by repeat (first | (with_reducible exact Below.refl _ w2) | (with_reducible refine bdrewN ?_ _) | (with_reducible refine Below.drew ?_) | (with_reducible refine Below.setCell ?_ (by first | omega | (simp; done) | (simp; omega)) _) | (with_reducible refine Below.alloc ?_ (by first | omega | (simp; done) | (simp; omega)) _)))
  have hbB : b < w2.heap.size := (exJob0 hj).1
  replace hj := Rd.at hj hb3
  have HB3 := hid (hb2.trans (hb3.mono hb2.size) : Below w.heap.size w w3)
  clear hw3 hb3 hb2 hb0
  (refine listF_abs ?_; intro s' hs'; have gl1 := congrFun hs' 1; simp only [updS_some, updS_none, Nat.reduceEqDiff, ↓reduceIte] at gl1; (try rw [sl1] at gl1); have gl20 := congrFun hs' 20; simp only [updS_some, updS_none, Nat.reduceEqDiff, ↓reduceIte] at gl20; (try rw [sl20] at gl20); clear hs'; (try clear sl1); (try clear sl20); have sl1 := gl1; clear gl1; have sl20 := gl20; clear gl20)
  generalize w2.heap.size = B at *
  (refine listF_step rfl (fun K' hK => ?_); unfold opF; go_simp; refine (exDay_any hj).mono ?_; rintro e w4 ⟨a2, cc2, a3, cc3, rfl, hl, hq, hb4⟩; refine ⟨_, rfl, hK _ _ ?_⟩; clear hK K')
  replace k1 := k1.at hb4
  replace hj := Rd.at hj hb4
  have HB4 := hid (HB3.out.trans (hb4.mono HB3.out.size) : Below w.heap.size w w4)
  clear hb4 HB3
  have c0 := k1.cell 0 rfl
  have c1 := k1.cell 1 rfl
  have c2 := k1.cell 2 rfl
  have c3 := k1.cell 3 rfl
  have c4 := k1.cell 4 rfl
  have c5 := k1.cell 5 rfl
  have c6 := k1.cell 6 rfl
  have cs := k1.1
  (refine listF_abs ?_; intro s' hs'; have gl1 := congrFun hs' 1; simp only [updS_some, updS_none, Nat.reduceEqDiff, ↓reduceIte] at gl1; (try rw [sl1] at gl1); have gl21 := congrFun hs' 21; simp only [updS_some, updS_none, Nat.reduceEqDiff, ↓reduceIte] at gl21; (try rw [sl21] at gl21); clear hs'; (try clear sl1); (try clear sl21); have sl1 := gl1; clear gl1; have sl21 := gl21; clear gl21)
  repeat (first | ((first | (refine listF_step rfl (fun K' hK => ?_)) | (refine listF_yes rfl rfl (by decide) ?_ (fun K' hK => ?_); (focus (go_simp; done)))); unfold opF; go_simp; (refine hK _ _ ?_); clear hK K') | (refine listF_no (b' := true) rfl rfl (by decide) ?_ ?_ ?_; (focus (go_simp; done)); (focus rfl)) | (refine listF_no (b' := false) rfl rfl (by decide) ?_ ?_ ?_; (focus (go_simp; done)); (focus rfl)) | (refine listF_nu rfl rfl (by decide) ?_ ?_; (focus (go_simp; done))) | (refine listF_nil ?_) | (refine region_F ?_) | (refine cond_F true ?_ ?_; (focus (go_simp; done)); simp only [if_true]) | (refine cond_F false ?_ ?_; (focus (go_simp; done)); simp only [Bool.false_eq_true, if_false]) | (with_reducible go_step))
  refine listF_absw ?_
  intro w5 hw5
  have k3 : Cells w5 w4.heap.size [.int .i64 46, .slice a3 3 cc3] := by rw [hw5]; exact Cells.new (cs := #[.int .i64 46, .slice a3 3 cc3]) rfl
  have hb5 : Below w4.heap.size w4 w5 := by rw [hw5]; exact (by repeat (first | (with_reducible exact Below.refl _ w4) | (with_reducible refine bdrewN ?_ _) | (with_reducible refine Below.drew ?_) | (with_reducible refine Below.setCell ?_ (by first | omega | (simp; done) | (simp; omega)) _) | (with_reducible refine Below.alloc ?_ (by first | omega | (simp; done) | (simp; omega)) _)))
  replace k1 := k1.at hb5
  replace hj := Rd.at hj hb5
  replace hl := Rd.at hl hb5
  replace hq := Rd.at hq hb5
  have HB5 := hid (HB4.out.trans (hb5.mono HB4.out.size) : Below w.heap.size w w5)
  clear c0 c1 c2 c3 c4 c5 c6 cs
  clear hw5 hb5 HB4
  (refine listF_abs ?_; intro s' hs'; have gl1 := congrFun hs' 1; simp only [updS_some, updS_none, Nat.reduceEqDiff, ↓reduceIte] at gl1; (try rw [sl1] at gl1); have gl2 := congrFun hs' 2; simp only [updS_some, updS_none, Nat.reduceEqDiff, ↓reduceIte] at gl2; (try rw [sl2] at gl2); have gl3 := congrFun hs' 3; simp only [updS_some, updS_none, Nat.reduceEqDiff, ↓reduceIte] at gl3; (try rw [sl3] at gl3); have gl4 := congrFun hs' 4; simp only [updS_some, updS_none, Nat.reduceEqDiff, ↓reduceIte] at gl4; (try rw [sl4] at gl4); have gl26 := congrFun hs' 26; simp only [updS_some, updS_none, Nat.reduceEqDiff, ↓reduceIte] at gl26; (try rw [sl26] at gl26); clear hs'; (try clear sl1); (try clear sl2); (try clear sl3); (try clear sl4); (try clear sl26); have sl1 := gl1; clear gl1; have sl2 := gl2; clear gl2; have sl3 := gl3; clear gl3; have sl4 := gl4; clear gl4; have sl26 := gl26; clear gl26)
  generalize w4.heap.size = B3 at *
  (refine listF_step rfl (fun K' hK => ?_); unfold opF; go_simp; refine (exBill_any hj).mono ?_; rintro e w6 ⟨a5, cc5, rfl, hi, hb6⟩; refine ⟨_, rfl, hK _ _ ?_⟩; clear hK K')
  replace k1 := k1.at hb6
  replace k3 := k3.at hb6
  replace hj := Rd.at hj hb6
  replace hl := Rd.at hl hb6
  replace hq := Rd.at hq hb6
  have HB6 := hid (HB5.out.trans (hb6.mono HB5.out.size) : Below w.heap.size w w6)
  clear hb6 HB5
  have c0 := k1.cell 0 rfl
  have c1 := k1.cell 1 rfl
  have c2 := k1.cell 2 rfl
  have c3 := k1.cell 3 rfl
  have c4 := k1.cell 4 rfl
  have c5 := k1.cell 5 rfl
  have c6 := k1.cell 6 rfl
  have cs := k1.1
  (refine listF_abs ?_; intro s' hs'; have gl1 := congrFun hs' 1; simp only [updS_some, updS_none, Nat.reduceEqDiff, ↓reduceIte] at gl1; (try rw [sl1] at gl1); have gl2 := congrFun hs' 2; simp only [updS_some, updS_none, Nat.reduceEqDiff, ↓reduceIte] at gl2; (try rw [sl2] at gl2); have gl3 := congrFun hs' 3; simp only [updS_some, updS_none, Nat.reduceEqDiff, ↓reduceIte] at gl3; (try rw [sl3] at gl3); have gl4 := congrFun hs' 4; simp only [updS_some, updS_none, Nat.reduceEqDiff, ↓reduceIte] at gl4; (try rw [sl4] at gl4); have gl27 := congrFun hs' 27; simp only [updS_some, updS_none, Nat.reduceEqDiff, ↓reduceIte] at gl27; (try rw [sl27] at gl27); clear hs'; (try clear sl1); (try clear sl2); (try clear sl3); (try clear sl4); (try clear sl27); have sl1 := gl1; clear gl1; have sl2 := gl2; clear gl2; have sl3 := gl3; clear gl3; have sl4 := gl4; clear gl4; have sl27 := gl27; clear gl27)
  repeat (first | ((first | (refine listF_step rfl (fun K' hK => ?_)) | (refine listF_yes rfl rfl (by decide) ?_ (fun K' hK => ?_); (focus (go_simp; done)))); unfold opF; go_simp; (refine hK _ _ ?_); clear hK K') | (refine listF_no (b' := true) rfl rfl (by decide) ?_ ?_ ?_; (focus (go_simp; done)); (focus rfl)) | (refine listF_no (b' := false) rfl rfl (by decide) ?_ ?_ ?_; (focus (go_simp; done)); (focus rfl)) | (refine listF_nu rfl rfl (by decide) ?_ ?_; (focus (go_simp; done))) | (refine listF_nil ?_) | (refine region_F ?_) | (refine cond_F true ?_ ?_; (focus (go_simp; done)); simp only [if_true]) | (refine cond_F false ?_ ?_; (focus (go_simp; done)); simp only [Bool.false_eq_true, if_false]) | (with_reducible go_step))
  refine wp_absw ?_
  intro w7 hw7
  have k6 : Cells w7 w6.heap.size [.int .i64 46, .int .i64 0, .int .i64 0, .int .i64 0] := by rw [hw7]; exact Cells.new (cs := #[.int .i64 46, .int .i64 0, .int .i64 0, .int .i64 0]) rfl
  have hb7 : Below w6.heap.size w6 w7 := by rw [hw7]; exact (by repeat (first | (with_reducible exact Below.refl _ w6) | (with_reducible refine bdrewN ?_ _) | (with_reducible refine Below.drew ?_) | (with_reducible refine Below.setCell ?_ (by first | omega | (simp; done) | (simp; omega)) _) | (with_reducible refine Below.alloc ?_ (by first | omega | (simp; done) | (simp; omega)) _)))
  replace k1 := k1.at hb7
  replace k3 := k3.at hb7
  replace hj := Rd.at hj hb7
  replace hl := Rd.at hl hb7
  replace hq := Rd.at hq hb7
  replace hi := Rd.at hi hb7
  have HB7 := hid (HB6.out.trans (hb7.mono HB6.out.size) : Below w.heap.size w w7)
  clear c0 c1 c2 c3 c4 c5 c6 cs
  clear hw7 hb7 HB6
  (refine wp_abs ?_; intro s' hs'; have gl1 := congrFun hs' 1; simp only [updS_some, updS_none, Nat.reduceEqDiff, ↓reduceIte] at gl1; (try rw [sl1] at gl1); have gl2 := congrFun hs' 2; simp only [updS_some, updS_none, Nat.reduceEqDiff, ↓reduceIte] at gl2; (try rw [sl2] at gl2); have gl3 := congrFun hs' 3; simp only [updS_some, updS_none, Nat.reduceEqDiff, ↓reduceIte] at gl3; (try rw [sl3] at gl3); have gl4 := congrFun hs' 4; simp only [updS_some, updS_none, Nat.reduceEqDiff, ↓reduceIte] at gl4; (try rw [sl4] at gl4); have gl5 := congrFun hs' 5; simp only [updS_some, updS_none, Nat.reduceEqDiff, ↓reduceIte] at gl5; (try rw [sl5] at gl5); have gl6 := congrFun hs' 6; simp only [updS_some, updS_none, Nat.reduceEqDiff, ↓reduceIte] at gl6; (try rw [sl6] at gl6); have gl7 := congrFun hs' 7; simp only [updS_some, updS_none, Nat.reduceEqDiff, ↓reduceIte] at gl7; (try rw [sl7] at gl7); clear hs'; (try clear sl1); (try clear sl2); (try clear sl3); (try clear sl4); (try clear sl5); (try clear sl6); (try clear sl7); have sl1 := gl1; clear gl1; have sl2 := gl2; clear gl2; have sl3 := gl3; clear gl3; have sl4 := gl4; clear gl4; have sl5 := gl5; clear gl5; have sl6 := gl6; clear gl6; have sl7 := gl7; clear gl7)
  generalize w6.heap.size = B6 at *
  have c0 := k1.cell 0 rfl
  have c1 := k1.cell 1 rfl
  have c2 := k1.cell 2 rfl
  have c3 := k1.cell 3 rfl
  have c4 := k1.cell 4 rfl
  have c5 := k1.cell 5 rfl
  have c6 := k1.cell 6 rfl
  have cs := k1.1
  obtain ⟨jb, j0, j1, j2, j3⟩ := exJob0 hj
  refine regionQ_F (Below w7.heap.size w7) (by kernel_rfl) (by kernel_rfl) (Below.refl _ _).drew ?_
  repeat (first | (refine listQ_step (v := ?_) rfl ?_ ?_; rotate_left; (focus (intro wq hwq; obtain ⟨hcq, hfq⟩ := bcell hwq; go_simp; (first | rfl | (exact ⟨rfl, rfl⟩) | (exact exQuote_c hwq hwq.size))))) | (refine listQ_yes (v := ?_) rfl rfl (by decide) ?_ ?_ ?_; rotate_left; (focus (go_simp; done)); (focus (intro wq hwq; obtain ⟨hcq, hfq⟩ := bcell hwq; go_simp; (first | rfl | (exact ⟨rfl, rfl⟩) | (exact exQuote_c hwq hwq.size))))) | (refine listQ_no (b' := true) rfl rfl (by decide) ?_ ?_ ?_; (focus (go_simp; done)); (focus rfl)) | (refine listQ_no (b' := false) rfl rfl (by decide) ?_ ?_ ?_; (focus (go_simp; done)); (focus rfl)) | (refine listQ_nu rfl rfl (by decide) ?_ ?_; (focus (go_simp; done))) | (refine listQ_nil ?_))
  intro w8 hw8
  replace k1 := k1.at hw8
  replace k3 := k3.at hw8
  replace k6 := k6.at hw8
  replace hj := Rd.at hj hw8
  replace hl := Rd.at hl hw8
  replace hq := Rd.at hq hw8
  replace hi := Rd.at hi hw8
  have HB8 := hid (HB7.out.trans (hw8.mono HB7.out.size) : Below w.heap.size w w8)
  clear c0 c1 c2 c3 c4 c5 c6 cs
  clear jb j0 j1 j2 j3 hw8 HB7
  have c0 := k1.cell 0 rfl
  have c1 := k1.cell 1 rfl
  have c2 := k1.cell 2 rfl
  have c3 := k1.cell 3 rfl
  have c4 := k1.cell 4 rfl
  have cs := k1.1
  repeat (first | ((first | (refine listF_step rfl (fun K' hK => ?_)) | (refine listF_yes rfl rfl (by decide) ?_ (fun K' hK => ?_); (focus (go_simp; done)))); unfold opF; go_simp; (refine hK _ _ ?_); clear hK K') | (refine listF_no (b' := true) rfl rfl (by decide) ?_ ?_ ?_; (focus (go_simp; done)); (focus rfl)) | (refine listF_no (b' := false) rfl rfl (by decide) ?_ ?_ ?_; (focus (go_simp; done)); (focus rfl)) | (refine listF_nu rfl rfl (by decide) ?_ ?_; (focus (go_simp; done))) | (refine listF_nil ?_) | (refine region_F ?_) | (refine cond_F true ?_ ?_; (focus (go_simp; done)); simp only [if_true]) | (refine cond_F false ?_ ?_; (focus (go_simp; done)); simp only [Bool.false_eq_true, if_false]) | (with_reducible go_step))
  (refine listF_abs ?_; intro s' hs'; have gl1 := congrFun hs' 1; simp only [updS_some, updS_none, Nat.reduceEqDiff, ↓reduceIte] at gl1; (try rw [sl1] at gl1); have gl2 := congrFun hs' 2; simp only [updS_some, updS_none, Nat.reduceEqDiff, ↓reduceIte] at gl2; (try rw [sl2] at gl2); have gl3 := congrFun hs' 3; simp only [updS_some, updS_none, Nat.reduceEqDiff, ↓reduceIte] at gl3; (try rw [sl3] at gl3); have gl4 := congrFun hs' 4; simp only [updS_some, updS_none, Nat.reduceEqDiff, ↓reduceIte] at gl4; (try rw [sl4] at gl4); have gl5 := congrFun hs' 5; simp only [updS_some, updS_none, Nat.reduceEqDiff, ↓reduceIte] at gl5; (try rw [sl5] at gl5); have gl6 := congrFun hs' 6; simp only [updS_some, updS_none, Nat.reduceEqDiff, ↓reduceIte] at gl6; (try rw [sl6] at gl6); have gl7 := congrFun hs' 7; simp only [updS_some, updS_none, Nat.reduceEqDiff, ↓reduceIte] at gl7; (try rw [sl7] at gl7); have gl8 := congrFun hs' 8; simp only [updS_some, updS_none, Nat.reduceEqDiff, ↓reduceIte] at gl8; (try rw [sl8] at gl8); have gl9 := congrFun hs' 9; simp only [updS_some, updS_none, Nat.reduceEqDiff, ↓reduceIte] at gl9; (try rw [sl9] at gl9); have gl43 := congrFun hs' 43; simp only [updS_some, updS_none, Nat.reduceEqDiff, ↓reduceIte] at gl43; (try rw [sl43] at gl43); clear hs'; (try clear sl1); (try clear sl2); (try clear sl3); (try clear sl4); (try clear sl5); (try clear sl6); (try clear sl7); (try clear sl8); (try clear sl9); (try clear sl43); have sl1 := gl1; clear gl1; have sl2 := gl2; clear gl2; have sl3 := gl3; clear gl3; have sl4 := gl4; clear gl4; have sl5 := gl5; clear gl5; have sl6 := gl6; clear gl6; have sl7 := gl7; clear gl7; have sl8 := gl8; clear gl8; have sl9 := gl9; clear gl9; have sl43 := gl43; clear gl43)
  (refine listF_step rfl (fun K' hK => ?_); unfold opF; go_simp; refine (exLongest_any _).mono ?_; rintro e w9 ⟨rfl, hb9⟩; refine ⟨_, rfl, hK _ _ ?_⟩; clear hK K')
  replace k1 := k1.at hb9
  replace k3 := k3.at hb9
  replace k6 := k6.at hb9
  replace hj := Rd.at hj hb9
  replace hl := Rd.at hl hb9
  replace hq := Rd.at hq hb9
  replace hi := Rd.at hi hb9
  have HB9 := hid (HB8.out.trans (hb9.mono HB8.out.size) : Below w.heap.size w w9)
  clear c0 c1 c2 c3 c4 cs hb9 HB8
  repeat (first | ((first | (refine listF_step rfl (fun K' hK => ?_)) | (refine listF_yes rfl rfl (by decide) ?_ (fun K' hK => ?_); (focus (go_simp; done)))); unfold opF; go_simp; (refine hK _ _ ?_); clear hK K') | (refine listF_no (b' := true) rfl rfl (by decide) ?_ ?_ ?_; (focus (go_simp; done)); (focus rfl)) | (refine listF_no (b' := false) rfl rfl (by decide) ?_ ?_ ?_; (focus (go_simp; done)); (focus rfl)) | (refine listF_nu rfl rfl (by decide) ?_ ?_; (focus (go_simp; done))) | (refine listF_nil ?_) | (refine region_F ?_) | (refine cond_F true ?_ ?_; (focus (go_simp; done)); simp only [if_true]) | (refine cond_F false ?_ ?_; (focus (go_simp; done)); simp only [Bool.false_eq_true, if_false]) | (with_reducible go_step))
  (refine wp_abs ?_; intro s' hs'; have gl1 := congrFun hs' 1; simp only [updS_some, updS_none, Nat.reduceEqDiff, ↓reduceIte] at gl1; (try rw [sl1] at gl1); have gl2 := congrFun hs' 2; simp only [updS_some, updS_none, Nat.reduceEqDiff, ↓reduceIte] at gl2; (try rw [sl2] at gl2); have gl3 := congrFun hs' 3; simp only [updS_some, updS_none, Nat.reduceEqDiff, ↓reduceIte] at gl3; (try rw [sl3] at gl3); have gl4 := congrFun hs' 4; simp only [updS_some, updS_none, Nat.reduceEqDiff, ↓reduceIte] at gl4; (try rw [sl4] at gl4); have gl5 := congrFun hs' 5; simp only [updS_some, updS_none, Nat.reduceEqDiff, ↓reduceIte] at gl5; (try rw [sl5] at gl5); have gl6 := congrFun hs' 6; simp only [updS_some, updS_none, Nat.reduceEqDiff, ↓reduceIte] at gl6; (try rw [sl6] at gl6); have gl7 := congrFun hs' 7; simp only [updS_some, updS_none, Nat.reduceEqDiff, ↓reduceIte] at gl7; (try rw [sl7] at gl7); have gl8 := congrFun hs' 8; simp only [updS_some, updS_none, Nat.reduceEqDiff, ↓reduceIte] at gl8; (try rw [sl8] at gl8); have gl9 := congrFun hs' 9; simp only [updS_some, updS_none, Nat.reduceEqDiff, ↓reduceIte] at gl9; (try rw [sl9] at gl9); have gl10 := congrFun hs' 10; simp only [updS_some, updS_none, Nat.reduceEqDiff, ↓reduceIte] at gl10; (try rw [sl10] at gl10); have gl11 := congrFun hs' 11; simp only [updS_some, updS_none, Nat.reduceEqDiff, ↓reduceIte] at gl11; (try rw [sl11] at gl11); clear hs'; (try clear sl1); (try clear sl2); (try clear sl3); (try clear sl4); (try clear sl5); (try clear sl6); (try clear sl7); (try clear sl8); (try clear sl9); (try clear sl10); (try clear sl11); have sl1 := gl1; clear gl1; have sl2 := gl2; clear gl2; have sl3 := gl3; clear gl3; have sl4 := gl4; clear gl4; have sl5 := gl5; clear gl5; have sl6 := gl6; clear gl6; have sl7 := gl7; clear gl7; have sl8 := gl8; clear gl8; have sl9 := gl9; clear gl9; have sl10 := gl10; clear gl10; have sl11 := gl11; clear gl11)
  rename_i KA hKA
  have hE : ∀ (s : Nat → Value) (w' : World) (X : Nat), Below w9.heap.size w9 w' → s 1 = .pointer (some ⟨B, 0, none⟩) → s 2 = .slice a2 5 cc2 → s 3 = .pointer (some ⟨B3, 0, none⟩) → s 4 = .int .i64 0 → s 5 = .slice a5 3 cc5 → s 6 = .pointer (some ⟨B6, 0, none⟩) → s 7 = .int .i64 0 → s 8 = .int .i64 165 → s 9 = .int .i64 0 → s 10 = .int .i64 69 → s 11 = .int .i64 0 →
      s 14 = .int .i64 0 → s 12 = .pointer (some ⟨X, 0, none⟩) → Cells w' X [.int .i64 3, .int .i64 2, .int .i64 13, .int .i64 19] → KA (mkA 117 s []) w' := by
    intro s w' X hB sl1 sl2 sl3 sl4 sl5 sl6 sl7 sl8 sl9 sl10 sl11 sl14 sl12 kX
    exact hKA _ _ (awake_tail sl1 sl2 sl3 sl4 sl5 sl6 sl7 sl8 sl9 sl10 sl11 sl14 sl12 kX (k1.at hB) (k3.at hB) (k6.at hB) (Rd.at hj hB) (Rd.at hl hB) (Rd.at hq hB) (Rd.at hi hB) (hid (HB9.out.trans (hB.mono HB9.out.size))))
  refine regionI_F (fun L s w' => Below w9.heap.size w9 w' ∧ s 1 = .pointer (some ⟨B, 0, none⟩) ∧ s 2 = .slice a2 5 cc2 ∧ s 3 = .pointer (some ⟨B3, 0, none⟩) ∧ s 4 = .int .i64 0 ∧ s 5 = .slice a5 3 cc5 ∧ s 6 = .pointer (some ⟨B6, 0, none⟩) ∧ s 7 = .int .i64 0 ∧ s 8 = .int .i64 165 ∧ s 9 = .int .i64 0 ∧ s 10 = .int .i64 69 ∧ s 11 = .int .i64 0 ∧ (L 0 = true → s 48 = .agg #[.int .i64 10, .int .i64 2, .int .i64 1, .int .i64 30, .int .i64 5, .slice (some ⟨b, 0, none⟩) 3 3, .slice none 0 0]) ∧ (L 1 = true → s 49 = .agg #[.int .i64 10, .int .i64 2, .int .i64 1, .int .i64 30, .int .i64 5, .slice (some ⟨b, 0, none⟩) 3 3, .slice none 0 0]) ∧ (L 2 = true → AwP2 w' (s 50) (L 3)) ∧ (L 3 = true → ∃ a c, s 51 = .tuple #[.agg #[.int .i64 3, .int .i64 2, .int .i64 13, .int .i64 19], .agg #[.int .i64 19, .slice a 3 c], .int .i64 0]) ∧ (L 4 = true → ∃ a c, s 47 = .tuple #[.agg #[.int .i64 3, .int .i64 2, .int .i64 13, .int .i64 19], .agg #[.int .i64 19, .slice a 3 c], .int .i64 0]) ∧ (L 5 = true → s 52 = .agg #[.int .i64 3, .int .i64 2, .int .i64 13, .int .i64 19]) ∧ (L 6 = true → ∃ a c, s 53 = .agg #[.int .i64 19, .slice a 3 c]) ∧ (L 7 = true → s 54 = .int .i64 0) ∧ (L 8 = true → AwP8 w9.heap.size w' (s 12) (L 10)) ∧ (L 9 = true → AwP9 w9.heap.size w' (s 13)) ∧ (L 12 = true → s 14 = .int .i64 0) ∧ (L 10 = true → L 8 = true) ∧ (L 8 = true → L 9 = true → s 12 ≠ s 13)) (by kernel_rfl) (by kernel_rfl) (by kernel_rfl) ?_ ?_ ⟨?_, ?_, ?_, ?_, ?_, ?_, ?_, ?_, ?_, ?_, ?_, ?_, ?_, trivial⟩
  · refine ⟨(Below.refl _ _).drew, ?_, ?_, ?_, ?_, ?_, ?_, ?_, ?_, ?_, ?_, ?_, by simp, by simp, by simp, by simp, by simp, by simp, by simp, by simp, by simp, by simp, by simp, by simp, by simp⟩
    all_goals go_simp
  · rintro s w' ⟨hB, g1, g2, g3, g4, g5, g6, g7, g8, g9, g10, g11, h0, h1, h2, h3, h4, h5, h6, h7, h8, h9, h12, hl, hne⟩
    replace h0 := h0 (by simp)
    replace h1 := h1 (by simp)
    replace h2 := h2 (by simp)
    replace h3 := h3 (by simp)
    replace h4 := h4 (by simp)
    replace h5 := h5 (by simp)
    replace h6 := h6 (by simp)
    replace h7 := h7 (by simp)
    replace h8 := h8 (by simp)
    replace h9 := h9 (by simp)
    replace h12 := h12 (by simp)
    clear hl hne h0 h1 h2 h3 h4 h5 h6 h7 h9
    obtain ⟨X, h8, _, kX⟩ := h8
    replace kX : Cells w' X [.int .i64 3, .int .i64 2, .int .i64 13, .int .i64 19] := kX
    exact hE s w' X hB g1 g2 g3 g4 g5 g6 g7 g8 g9 g10 g11 h12 h8 kX
  · intro L s w' hL hd hJ K hK
    obtain ⟨hB, g1, g2, g3, g4, g5, g6, g7, g8, g9, g10, g11, h0, h1, h2, h3, h4, h5, h6, h7, h8, h9, h12, hl, hne⟩ := hJ
    clear hd
    rw [if_pos (by rfl)]
    unfold opF
    have kq := k1.at hB
    have c0 := kq.cell 0 rfl
    have c1 := kq.cell 1 rfl
    have c2 := kq.cell 2 rfl
    have c3 := kq.cell 3 rfl
    have c4 := kq.cell 4 rfl
    have c5 := kq.cell 5 rfl
    have c6 := kq.cell 6 rfl
    have cs := kq.1
    go_simp
    exact hK _ _ ⟨hB, (by simpa [upd, updS] using g1), (by simpa [upd, updS] using g2), (by simpa [upd, updS] using g3), (by simpa [upd, updS] using g4), (by simpa [upd, updS] using g5), (by simpa [upd, updS] using g6), (by simpa [upd, updS] using g7), (by simpa [upd, updS] using g8), (by simpa [upd, updS] using g9), (by simpa [upd, updS] using g10), (by simpa [upd, updS] using g11), (by simp [upd, updS]), (by simpa [upd, updS] using h1), (by simpa [upd, updS] using h2), (by simpa [upd, updS] using h3), (by simpa [upd, updS] using h4), (by simpa [upd, updS] using h5), (by simpa [upd, updS] using h6), (by simpa [upd, updS] using h7), (by simpa [upd, updS] using h8), (by simpa [upd, updS] using h9), (by simpa [upd, updS] using h12), (by simpa [upd, updS] using hl), (by simpa [upd, updS] using hne)⟩
  · intro L s w' hL hd hJ K hK
    obtain ⟨hB, g1, g2, g3, g4, g5, g6, g7, g8, g9, g10, g11, h0, h1, h2, h3, h4, h5, h6, h7, h8, h9, h12, hl, hne⟩ := hJ
    clear hd
    rw [if_pos (by rfl)]
    unfold opF
    have kq := k1.at hB
    have c0 := kq.cell 0 rfl
    have c1 := kq.cell 1 rfl
    have c2 := kq.cell 2 rfl
    have c3 := kq.cell 3 rfl
    have c4 := kq.cell 4 rfl
    have c5 := kq.cell 5 rfl
    have c6 := kq.cell 6 rfl
    have cs := kq.1
    go_simp
    exact hK _ _ ⟨hB, (by simpa [upd, updS] using g1), (by simpa [upd, updS] using g2), (by simpa [upd, updS] using g3), (by simpa [upd, updS] using g4), (by simpa [upd, updS] using g5), (by simpa [upd, updS] using g6), (by simpa [upd, updS] using g7), (by simpa [upd, updS] using g8), (by simpa [upd, updS] using g9), (by simpa [upd, updS] using g10), (by simpa [upd, updS] using g11), (by simpa [upd, updS] using h0), (by simp [upd, updS]), (by simpa [upd, updS] using h2), (by simpa [upd, updS] using h3), (by simpa [upd, updS] using h4), (by simpa [upd, updS] using h5), (by simpa [upd, updS] using h6), (by simpa [upd, updS] using h7), (by simpa [upd, updS] using h8), (by simpa [upd, updS] using h9), (by simpa [upd, updS] using h12), (by simpa [upd, updS] using hl), (by simpa [upd, updS] using hne)⟩
  · intro L s w' hL hd hJ K hK
    obtain ⟨hB, g1, g2, g3, g4, g5, g6, g7, g8, g9, g10, g11, h0, h1, h2, h3, h4, h5, h6, h7, h8, h9, h12, hl, hne⟩ := hJ
    have l1 := hd ⟨1, .data⟩ (by simp) rfl
    clear hd
    rw [if_pos (by rfl)]
    unfold opF
    have v1 := h1 l1
    go_simp
    refine (exAt_any (Rd.at hj hB)).mono ?_
    rintro e wn ⟨a, c, rfl, hr, hbn⟩
    refine ⟨_, rfl, ?_⟩
    exact hK _ _ ⟨hB.trans (hbn.mono hB.size), (by simpa [upd, updS] using g1), (by simpa [upd, updS] using g2), (by simpa [upd, updS] using g3), (by simpa [upd, updS] using g4), (by simpa [upd, updS] using g5), (by simpa [upd, updS] using g6), (by simpa [upd, updS] using g7), (by simpa [upd, updS] using g8), (by simpa [upd, updS] using g9), (by simpa [upd, updS] using g10), (by simpa [upd, updS] using g11), (by simpa [upd, updS] using h0), (by simpa [upd, updS] using h1), (by simp only [upd, updS]; exact fun _ => ⟨a, c, rfl, fun _ => hr⟩), (by simpa [upd, updS] using h3), (by simpa [upd, updS] using h4), (by simpa [upd, updS] using h5), (by simpa [upd, updS] using h6), (by simpa [upd, updS] using h7), (by simpa [upd, updS] using fun h => (h8 h).at hbn), (by simpa [upd, updS] using fun h => (h9 h).at hbn), (by simpa [upd, updS] using h12), (by simpa [upd, updS] using hl), (by simpa [upd, updS] using hne)⟩
  · intro L s w' hL hd hJ K hK
    obtain ⟨hB, g1, g2, g3, g4, g5, g6, g7, g8, g9, g10, g11, h0, h1, h2, h3, h4, h5, h6, h7, h8, h9, h12, hl, hne⟩ := hJ
    have l0 := hd ⟨0, .data⟩ (by simp) rfl
    have l2 := hd ⟨2, .data⟩ (by simp) rfl
    clear hd
    rw [if_pos (by rfl)]
    unfold opF
    have v0 := h0 l0
    obtain ⟨a, c, v2, hr0⟩ := h2 l2
    have hr := hr0 hL
    go_simp
    refine (exNext_any (Rd.at hj hB) hr).mono ?_
    rintro e wn ⟨a', c', rfl, hbn⟩
    refine ⟨_, rfl, ?_⟩
    exact hK _ _ ⟨hB.trans (hbn.mono hB.size), (by simpa [upd, updS] using g1), (by simpa [upd, updS] using g2), (by simpa [upd, updS] using g3), (by simpa [upd, updS] using g4), (by simpa [upd, updS] using g5), (by simpa [upd, updS] using g6), (by simpa [upd, updS] using g7), (by simpa [upd, updS] using g8), (by simpa [upd, updS] using g9), (by simpa [upd, updS] using g10), (by simpa [upd, updS] using g11), (by simpa [upd, updS] using h0), (by simpa [upd, updS] using h1), (by simpa [upd, updS] using fun h => (h2 h).off), (by simp [upd, updS]), (by simpa [upd, updS] using h4), (by simpa [upd, updS] using h5), (by simpa [upd, updS] using h6), (by simpa [upd, updS] using h7), (by simpa [upd, updS] using fun h => (h8 h).at hbn), (by simpa [upd, updS] using fun h => (h9 h).at hbn), (by simpa [upd, updS] using h12), (by simpa [upd, updS] using hl), (by simpa [upd, updS] using hne)⟩
  · intro L s w' hL hd hJ K hK
    obtain ⟨hB, g1, g2, g3, g4, g5, g6, g7, g8, g9, g10, g11, h0, h1, h2, h3, h4, h5, h6, h7, h8, h9, h12, hl, hne⟩ := hJ
    have l3 := hd ⟨3, .data⟩ (by simp) rfl
    clear hd
    rw [if_pos (by rfl)]
    unfold opF
    obtain ⟨a, c, v3⟩ := h3 l3
    go_simp
    exact hK _ _ ⟨hB, (by simpa [upd, updS] using g1), (by simpa [upd, updS] using g2), (by simpa [upd, updS] using g3), (by simpa [upd, updS] using g4), (by simpa [upd, updS] using g5), (by simpa [upd, updS] using g6), (by simpa [upd, updS] using g7), (by simpa [upd, updS] using g8), (by simpa [upd, updS] using g9), (by simpa [upd, updS] using g10), (by simpa [upd, updS] using g11), (by simpa [upd, updS] using h0), (by simpa [upd, updS] using h1), (by simpa [upd, updS] using h2), (by simpa [upd, updS] using h3), (by simp [upd, updS]), (by simpa [upd, updS] using h5), (by simpa [upd, updS] using h6), (by simpa [upd, updS] using h7), (by simpa [upd, updS] using h8), (by simpa [upd, updS] using h9), (by simpa [upd, updS] using h12), (by simpa [upd, updS] using hl), (by simpa [upd, updS] using hne)⟩
  · intro L s w' hL hd hJ K hK
    obtain ⟨hB, g1, g2, g3, g4, g5, g6, g7, g8, g9, g10, g11, h0, h1, h2, h3, h4, h5, h6, h7, h8, h9, h12, hl, hne⟩ := hJ
    have l4 := hd ⟨4, .data⟩ (by simp) rfl
    clear hd
    rw [if_pos (by rfl)]
    unfold opF
    obtain ⟨a, c, v4⟩ := h4 l4
    go_simp
    exact hK _ _ ⟨hB, (by simpa [upd, updS] using g1), (by simpa [upd, updS] using g2), (by simpa [upd, updS] using g3), (by simpa [upd, updS] using g4), (by simpa [upd, updS] using g5), (by simpa [upd, updS] using g6), (by simpa [upd, updS] using g7), (by simpa [upd, updS] using g8), (by simpa [upd, updS] using g9), (by simpa [upd, updS] using g10), (by simpa [upd, updS] using g11), (by simpa [upd, updS] using h0), (by simpa [upd, updS] using h1), (by simpa [upd, updS] using h2), (by simpa [upd, updS] using h3), (by simpa [upd, updS] using h4), (by simp [upd, updS]), (by simpa [upd, updS] using h6), (by simpa [upd, updS] using h7), (by simpa [upd, updS] using h8), (by simpa [upd, updS] using h9), (by simpa [upd, updS] using h12), (by simpa [upd, updS] using hl), (by simpa [upd, updS] using hne)⟩
  · intro L s w' hL hd hJ K hK
    obtain ⟨hB, g1, g2, g3, g4, g5, g6, g7, g8, g9, g10, g11, h0, h1, h2, h3, h4, h5, h6, h7, h8, h9, h12, hl, hne⟩ := hJ
    have l4 := hd ⟨4, .data⟩ (by simp) rfl
    clear hd
    rw [if_pos (by rfl)]
    unfold opF
    obtain ⟨a, c, v4⟩ := h4 l4
    go_simp
    exact hK _ _ ⟨hB, (by simpa [upd, updS] using g1), (by simpa [upd, updS] using g2), (by simpa [upd, updS] using g3), (by simpa [upd, updS] using g4), (by simpa [upd, updS] using g5), (by simpa [upd, updS] using g6), (by simpa [upd, updS] using g7), (by simpa [upd, updS] using g8), (by simpa [upd, updS] using g9), (by simpa [upd, updS] using g10), (by simpa [upd, updS] using g11), (by simpa [upd, updS] using h0), (by simpa [upd, updS] using h1), (by simpa [upd, updS] using h2), (by simpa [upd, updS] using h3), (by simpa [upd, updS] using h4), (by simpa [upd, updS] using h5), (by simp [upd, updS]), (by simpa [upd, updS] using h7), (by simpa [upd, updS] using h8), (by simpa [upd, updS] using h9), (by simpa [upd, updS] using h12), (by simpa [upd, updS] using hl), (by simpa [upd, updS] using hne)⟩
  · intro L s w' hL hd hJ K hK
    obtain ⟨hB, g1, g2, g3, g4, g5, g6, g7, g8, g9, g10, g11, h0, h1, h2, h3, h4, h5, h6, h7, h8, h9, h12, hl, hne⟩ := hJ
    have l4 := hd ⟨4, .data⟩ (by simp) rfl
    clear hd
    rw [if_pos (by rfl)]
    unfold opF
    obtain ⟨a, c, v4⟩ := h4 l4
    go_simp
    exact hK _ _ ⟨hB, (by simpa [upd, updS] using g1), (by simpa [upd, updS] using g2), (by simpa [upd, updS] using g3), (by simpa [upd, updS] using g4), (by simpa [upd, updS] using g5), (by simpa [upd, updS] using g6), (by simpa [upd, updS] using g7), (by simpa [upd, updS] using g8), (by simpa [upd, updS] using g9), (by simpa [upd, updS] using g10), (by simpa [upd, updS] using g11), (by simpa [upd, updS] using h0), (by simpa [upd, updS] using h1), (by simpa [upd, updS] using h2), (by simpa [upd, updS] using h3), (by simpa [upd, updS] using h4), (by simpa [upd, updS] using h5), (by simpa [upd, updS] using h6), (by simp [upd, updS]), (by simpa [upd, updS] using h8), (by simpa [upd, updS] using h9), (by simpa [upd, updS] using h12), (by simpa [upd, updS] using hl), (by simpa [upd, updS] using hne)⟩
  · intro L s w' hL hd hJ K hK
    obtain ⟨hB, g1, g2, g3, g4, g5, g6, g7, g8, g9, g10, g11, h0, h1, h2, h3, h4, h5, h6, h7, h8, h9, h12, hl, hne⟩ := hJ
    clear hd
    rw [if_pos (by rfl)]
    unfold opF
    have hsz := hB.size
    have hba : Below w'.heap.size w' (w'.alloc (.cells #[.int .i64 0, .int .i64 0, .int .i64 0, .int .i64 0] 40)) := (Below.refl _ _).alloc (Nat.le_refl _) _
    have l10 : L 10 = false := by cases hh : L 10 with | false => rfl | true => exact absurd (hl hh) (by rw [hL]; decide)
    have hno : L 9 = true → s 13 ≠ .pointer (some ⟨w'.heap.size, 0, none⟩) := fun h e => by obtain ⟨Y, x, y, e2, _, kY⟩ := h9 h; rw [e2] at e; cases e; exact Nat.lt_irrefl _ kY.1
    go_simp
    exact hK _ _ ⟨hB.trans (hba.mono hB.size), (by simpa [upd, updS] using g1), (by simpa [upd, updS] using g2), (by simpa [upd, updS] using g3), (by simpa [upd, updS] using g4), (by simpa [upd, updS] using g5), (by simpa [upd, updS] using g6), (by simpa [upd, updS] using g7), (by simpa [upd, updS] using g8), (by simpa [upd, updS] using g9), (by simpa [upd, updS] using g10), (by simpa [upd, updS] using g11), (by simpa [upd, updS] using h0), (by simpa [upd, updS] using h1), (by simpa [upd, updS] using fun h => (h2 h).at hba), (by simpa [upd, updS] using h3), (by simpa [upd, updS] using h4), (by simpa [upd, updS] using h5), (by simpa [upd, updS] using h6), (by simpa [upd, updS] using h7), (by simp only [upd, updS]; exact fun _ => AwP8.new l10 hsz), (by simpa [upd, updS] using fun h => (h9 h).at hba), (by simpa [upd, updS] using h12), (by simp [upd]), (by simp only [upd, updS]; exact fun _ h => (hno h).symm)⟩
  · intro L s w' hL hd hJ K hK
    obtain ⟨hB, g1, g2, g3, g4, g5, g6, g7, g8, g9, g10, g11, h0, h1, h2, h3, h4, h5, h6, h7, h8, h9, h12, hl, hne⟩ := hJ
    clear hd
    rw [if_pos (by rfl)]
    unfold opF
    have hsz := hB.size
    have hba : Below w'.heap.size w' (w'.alloc (.cells #[.int .i64 0, .slice none 0 0] 33)) := (Below.refl _ _).alloc (Nat.le_refl _) _
    have hno : L 8 = true → s 12 ≠ .pointer (some ⟨w'.heap.size, 0, none⟩) := fun h e => by obtain ⟨Y, e2, _, kY⟩ := h8 h; rw [e2] at e; cases e; exact Nat.lt_irrefl _ kY.1
    go_simp
    exact hK _ _ ⟨hB.trans (hba.mono hB.size), (by simpa [upd, updS] using g1), (by simpa [upd, updS] using g2), (by simpa [upd, updS] using g3), (by simpa [upd, updS] using g4), (by simpa [upd, updS] using g5), (by simpa [upd, updS] using g6), (by simpa [upd, updS] using g7), (by simpa [upd, updS] using g8), (by simpa [upd, updS] using g9), (by simpa [upd, updS] using g10), (by simpa [upd, updS] using g11), (by simpa [upd, updS] using h0), (by simpa [upd, updS] using h1), (by simpa [upd, updS] using fun h => (h2 h).at hba), (by simpa [upd, updS] using h3), (by simpa [upd, updS] using h4), (by simpa [upd, updS] using h5), (by simpa [upd, updS] using h6), (by simpa [upd, updS] using h7), (by simpa [upd, updS] using fun h => (h8 h).at hba), (by simp only [upd, updS]; exact fun _ => ⟨w'.heap.size, _, _, rfl, hsz, Cells.new (cs := #[.int .i64 0, .slice none 0 0]) rfl⟩), (by simpa [upd, updS] using h12), (by simpa [upd, updS] using hl), (by simp only [upd, updS]; exact fun h _ => hno h)⟩
  · intro L s w' hL hd hJ K hK
    obtain ⟨hB, g1, g2, g3, g4, g5, g6, g7, g8, g9, g10, g11, h0, h1, h2, h3, h4, h5, h6, h7, h8, h9, h12, hl, hne⟩ := hJ
    have l8 := hd ⟨8, .data⟩ (by simp) rfl
    have l5 := hd ⟨5, .data⟩ (by simp) rfl
    have l3 := hd ⟨3, .chain⟩ (by simp) rfl
    clear hd
    rw [if_pos (by rfl)]
    unfold opF
    have v5 := h5 l5
    obtain ⟨X, v8, hX, kX⟩ := h8 l8
    rw [hL] at kX
    replace kX : Cells w' X [.int .i64 0, .int .i64 0, .int .i64 0, .int .i64 0] := kX
    have x0 := kX.cell 0 rfl
    have x1 := kX.cell 1 rfl
    have x2 := kX.cell 2 rfl
    have x3 := kX.cell 3 rfl
    have xz := kX.2.2
    have xs := kX.1
    have hn9 : L 9 = true → ∀ Y, s 13 = .pointer (some ⟨Y, 0, none⟩) → Y ≠ X := fun h Y e e2 => hne l8 h (by rw [v8, e, e2])
    have V8 := hid v8
    go_simp
    exact hK _ _ ⟨((((hB.setCell hX _).setCell hX _).setCell hX _).setCell hX _), (by simpa [upd, updS] using g1), (by simpa [upd, updS] using g2), (by simpa [upd, updS] using g3), (by simpa [upd, updS] using g4), (by simpa [upd, updS] using g5), (by simpa [upd, updS] using g6), (by simpa [upd, updS] using g7), (by simpa [upd, updS] using g8), (by simpa [upd, updS] using g9), (by simpa [upd, updS] using g10), (by simpa [upd, updS] using g11), (by simpa [upd, updS] using h0), (by simpa [upd, updS] using h1), (by simpa [upd, updS] using fun h => (h2 h).done l3), (by simpa [upd, updS] using h3), (by simpa [upd, updS] using h4), (by simpa [upd, updS] using h5), (by simpa [upd, updS] using h6), (by simpa [upd, updS] using h7), (by simp only [upd, updS]; exact fun _ => ⟨X, V8.out, hX, (((kX.set (i := 0) (u := .int .i64 3)).set (i := 1) (u := .int .i64 2)).set (i := 2) (u := .int .i64 13)).set (i := 3) (u := .int .i64 19)⟩), (by simpa [upd, updS] using fun h => by obtain ⟨Y, x, y, e, hY, kY⟩ := h9 h; have hnn := hn9 h Y e; exact ⟨Y, x, y, e, hY, ((((kY).setFar (by omega)).setFar (by omega)).setFar (by omega)).setFar (by omega)⟩), (by simpa [upd, updS] using h12), (by simpa [upd] using l8), (by simpa [upd, updS] using hne)⟩
  · intro L s w' hL hd hJ K hK
    obtain ⟨hB, g1, g2, g3, g4, g5, g6, g7, g8, g9, g10, g11, h0, h1, h2, h3, h4, h5, h6, h7, h8, h9, h12, hl, hne⟩ := hJ
    have l9 := hd ⟨9, .data⟩ (by simp) rfl
    have l6 := hd ⟨6, .data⟩ (by simp) rfl
    have l3 := hd ⟨3, .phase⟩ (by simp) rfl
    clear hd
    rw [if_pos (by rfl)]
    unfold opF
    obtain ⟨a, c, v6⟩ := h6 l6
    obtain ⟨Y, x, y, v9, hY, kY⟩ := h9 l9
    have x0 := kY.cell 0 rfl
    have x1 := kY.cell 1 rfl
    have xz := kY.2.2
    have xs := kY.1
    have hn8 : L 8 = true → ∀ X, s 12 = .pointer (some ⟨X, 0, none⟩) → X ≠ Y := fun h X e e2 => hne h l9 (by rw [v9, e, e2])
    have V9 := hid v9
    go_simp
    exact hK _ _ ⟨((hB.setCell hY _).setCell hY _), (by simpa [upd, updS] using g1), (by simpa [upd, updS] using g2), (by simpa [upd, updS] using g3), (by simpa [upd, updS] using g4), (by simpa [upd, updS] using g5), (by simpa [upd, updS] using g6), (by simpa [upd, updS] using g7), (by simpa [upd, updS] using g8), (by simpa [upd, updS] using g9), (by simpa [upd, updS] using g10), (by simpa [upd, updS] using g11), (by simpa [upd, updS] using h0), (by simpa [upd, updS] using h1), (by simpa [upd, updS] using fun h => (h2 h).done l3), (by simpa [upd, updS] using h3), (by simpa [upd, updS] using h4), (by simpa [upd, updS] using h5), (by simpa [upd, updS] using h6), (by simpa [upd, updS] using h7), (by simpa [upd, updS] using fun h => by obtain ⟨X, e, hX, kX⟩ := h8 h; have hnn := hn8 h X e; exact ⟨X, e, hX, (kX.setFar (by omega)).setFar (by omega)⟩), (by simp only [upd, updS]; exact fun _ => ⟨Y, _, _, V9.out, hY, (kY.set (i := 0) (u := .int .i64 19)).set (i := 1) (u := .slice a 3 c)⟩), (by simpa [upd, updS] using h12), (by simpa [upd, updS] using hl), (by simpa [upd, updS] using hne)⟩
  · intro L s w' hL hd hJ K hK
    obtain ⟨hB, g1, g2, g3, g4, g5, g6, g7, g8, g9, g10, g11, h0, h1, h2, h3, h4, h5, h6, h7, h8, h9, h12, hl, hne⟩ := hJ
    have l7 := hd ⟨7, .data⟩ (by simp) rfl
    clear hd
    rw [if_pos (by rfl)]
    unfold opF
    have v7 := h7 l7
    go_simp
    exact hK _ _ ⟨hB, (by simpa [upd, updS] using g1), (by simpa [upd, updS] using g2), (by simpa [upd, updS] using g3), (by simpa [upd, updS] using g4), (by simpa [upd, updS] using g5), (by simpa [upd, updS] using g6), (by simpa [upd, updS] using g7), (by simpa [upd, updS] using g8), (by simpa [upd, updS] using g9), (by simpa [upd, updS] using g10), (by simpa [upd, updS] using g11), (by simpa [upd, updS] using h0), (by simpa [upd, updS] using h1), (by simpa [upd, updS] using h2), (by simpa [upd, updS] using h3), (by simpa [upd, updS] using h4), (by simpa [upd, updS] using h5), (by simpa [upd, updS] using h6), (by simpa [upd, updS] using h7), (by simpa [upd, updS] using h8), (by simpa [upd, updS] using h9), (by simp [upd, updS]), (by simpa [upd, updS] using hl), (by simpa [upd, updS] using hne)⟩

end Go.Proofs.Ytbjgebbfachgfaa
