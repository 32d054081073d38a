/- QueueQuotes: its walk. -/
import Derived.Test.YtbjgebbfachgfaacAw
import Derived.Test.YtbjgebbfachgfaacJ10
set_option linter.unusedVariables false
set_option linter.unusedSimpArgs false
set_option linter.unusedSectionVars false
set_option linter.all false
namespace Go.Proofs.Ytbjgebbfachgfaa
open Go.RowKit


set_option maxRecDepth 100000 in
set_option maxHeartbeats 8000000 in
theorem quotes_walk (r : Rules) (j : Job) (many : Int) (w : World) :
    Calls Try.prog 6 #[.agg #[.int .i64 r.slice, .int .i64 r.load, .int .i64 r.dump, .int .i64 r.patience, .int .i64 r.rate], .agg #[.string j.name, .int .i64 j.arrive, .int .i64 j.claim, .int .i64 j.needs], .int .i64 many] w fun e w' => e = .returned (.bool true) ∧ Below w.heap.size w w' := by
  refine enter_F Try.func6 rfl Try.ntmps6 (by simp) ?_
  intro s hs
  have sl0 : s 0 = .agg #[.int .i64 r.slice, .int .i64 r.load, .int .i64 r.dump, .int .i64 r.patience, .int .i64 r.rate] := hs 0 (by simp)
  have sl1 : s 1 = .agg #[.string j.name, .int .i64 j.arrive, .int .i64 j.claim, .int .i64 j.needs] := hs 1 (by simp)
  have sl2 : s 2 = .int .i64 many := hs 2 (by simp)
  clear hs
  repeat (first | ((first | (refine listF_step rfl (fun K' hK => ?_)) | (refine listF_yes rfl rfl (by decide) ?_ (fun K' hK => ?_); (focus (go_simp; done)))); unfold opF; go_simp; (refine hK _ _ ?_); clear hK K') | (refine listF_no (b' := true) rfl rfl (by decide) ?_ ?_ ?_; (focus (go_simp; done)); (focus rfl)) | (refine listF_no (b' := false) rfl rfl (by decide) ?_ ?_ ?_; (focus (go_simp; done)); (focus rfl)) | (refine listF_nu rfl rfl (by decide) ?_ ?_; (focus (go_simp; done))) | (refine listF_nil ?_) | (refine region_F ?_) | (refine cond_F true ?_ ?_; (focus (go_simp; done)); simp only [if_true]) | (refine cond_F false ?_ ?_; (focus (go_simp; done)); simp only [Bool.false_eq_true, if_false]) | (with_reducible go_step))
  refine listF_absw ?_
  intro w1 hw1
  have k3 : Cells w1 w.heap.size [.int .i64 r.slice, .int .i64 r.load, .int .i64 r.dump, .int .i64 r.patience, .int .i64 r.rate] := by rw [hw1]; exact (Cells.new (cs := #[.int .i64 r.slice, .int .i64 r.load, .int .i64 r.dump, .int .i64 r.patience, .int .i64 r.rate]) rfl).up _
  have k4 : Cells w1 (w.heap.size + 1) [.string j.name, .int .i64 j.arrive, .int .i64 j.claim, .int .i64 j.needs] := by rw [hw1]; exact Cells.new (cs := #[.string j.name, .int .i64 j.arrive, .int .i64 j.claim, .int .i64 j.needs]) (by first | omega | (simp; done) | (simp; omega))
  have HB0 := hid (show Below w.heap.size w w1 by rw [hw1]; exact (by repeat (first | (with_reducible exact Below.refl _ w) | (with_reducible refine bdrewN ?_ _) | (with_reducible refine Below.drew ?_) | (with_reducible refine Below.setCell ?_ (by first | omega | (simp; done) | (simp; omega)) _) | (with_reducible refine Below.alloc ?_ (by first | omega | (simp; done) | (simp; omega)) _))))
  clear hw1
  (refine listF_abs ?_; intro s' hs'; have gl2 := congrFun hs' 2; simp only [updS_some, updS_none, Nat.reduceEqDiff, ↓reduceIte] at gl2; (try rw [sl2] at gl2); have gl3 := congrFun hs' 3; simp only [updS_some, updS_none, Nat.reduceEqDiff, ↓reduceIte] at gl3; (try rw [sl3] at gl3); have gl4 := congrFun hs' 4; simp only [updS_some, updS_none, Nat.reduceEqDiff, ↓reduceIte] at gl4; (try rw [sl4] at gl4); have gl12 := congrFun hs' 12; simp only [updS_some, updS_none, Nat.reduceEqDiff, ↓reduceIte] at gl12; (try rw [sl12] at gl12); have gl13 := congrFun hs' 13; simp only [updS_some, updS_none, Nat.reduceEqDiff, ↓reduceIte] at gl13; (try rw [sl13] at gl13); clear hs'; (try clear sl2); (try clear sl3); (try clear sl4); (try clear sl12); (try clear sl13); have sl2 := gl2; clear gl2; have sl3 := gl3; clear gl3; have sl4 := gl4; clear gl4; have sl12 := gl12; clear gl12; have sl13 := gl13; clear gl13)
  (refine listF_step rfl (fun K' hK => ?_); unfold opF; go_simp; refine (qquote_any r j _).mono ?_; rintro e w2 ⟨rfl, hb2⟩; refine ⟨_, rfl, hK _ _ ?_⟩; clear hK K')
  replace k3 := k3.at hb2
  replace k4 := k4.at hb2
  have HB1 := hid (HB0.out.trans (hb2.mono HB0.out.size) : Below w.heap.size w w2)
  clear hb2 HB0
  have k3_0 := k3.cell 0 rfl
  have k3_1 := k3.cell 1 rfl
  have k3_2 := k3.cell 2 rfl
  have k3_3 := k3.cell 3 rfl
  have k3_4 := k3.cell 4 rfl
  have k3_s := k3.1
  have k4_0 := k4.cell 0 rfl
  have k4_1 := k4.cell 1 rfl
  have k4_2 := k4.cell 2 rfl
  have k4_3 := k4.cell 3 rfl
  have k4_s := k4.1
  (refine listF_abs ?_; intro s' hs'; have gl2 := congrFun hs' 2; simp only [updS_some, updS_none, Nat.reduceEqDiff, ↓reduceIte] at gl2; (try rw [sl2] at gl2); have gl3 := congrFun hs' 3; simp only [updS_some, updS_none, Nat.reduceEqDiff, ↓reduceIte] at gl3; (try rw [sl3] at gl3); have gl4 := congrFun hs' 4; simp only [updS_some, updS_none, Nat.reduceEqDiff, ↓reduceIte] at gl4; (try rw [sl4] at gl4); have gl14 := congrFun hs' 14; simp only [updS_some, updS_none, Nat.reduceEqDiff, ↓reduceIte] at gl14; (try rw [sl14] at gl14); clear hs'; (try clear sl2); (try clear sl3); (try clear sl4); (try clear sl14); have sl2 := gl2; clear gl2; have sl3 := gl3; clear gl3; have sl4 := gl4; clear gl4; have sl14 := gl14; clear gl14)
  repeat (first | ((first | (refine listF_step rfl (fun K' hK => ?_)) | (refine listF_yes rfl rfl (by decide) ?_ (fun K' hK => ?_); (focus (go_simp; done)))); unfold opF; go_simp; (refine hK _ _ ?_); clear hK K') | (refine listF_no (b' := true) rfl rfl (by decide) ?_ ?_ ?_; (focus (go_simp; done)); (focus rfl)) | (refine listF_no (b' := false) rfl rfl (by decide) ?_ ?_ ?_; (focus (go_simp; done)); (focus rfl)) | (refine listF_nu rfl rfl (by decide) ?_ ?_; (focus (go_simp; done))) | (refine listF_nil ?_) | (refine region_F ?_) | (refine cond_F true ?_ ?_; (focus (go_simp; done)); simp only [if_true]) | (refine cond_F false ?_ ?_; (focus (go_simp; done)); simp only [Bool.false_eq_true, if_false]) | (with_reducible go_step))
  (refine listF_abs ?_; intro s' hs'; have gl2 := congrFun hs' 2; simp only [updS_some, updS_none, Nat.reduceEqDiff, ↓reduceIte] at gl2; (try rw [sl2] at gl2); have gl3 := congrFun hs' 3; simp only [updS_some, updS_none, Nat.reduceEqDiff, ↓reduceIte] at gl3; (try rw [sl3] at gl3); have gl7 := congrFun hs' 7; simp only [updS_some, updS_none, Nat.reduceEqDiff, ↓reduceIte] at gl7; (try rw [sl7] at gl7); have gl8 := congrFun hs' 8; simp only [updS_some, updS_none, Nat.reduceEqDiff, ↓reduceIte] at gl8; (try rw [sl8] at gl8); have gl18 := congrFun hs' 18; simp only [updS_some, updS_none, Nat.reduceEqDiff, ↓reduceIte] at gl18; (try rw [sl18] at gl18); have gl19 := congrFun hs' 19; simp only [updS_some, updS_none, Nat.reduceEqDiff, ↓reduceIte] at gl19; (try rw [sl19] at gl19); clear hs'; (try clear sl2); (try clear sl3); (try clear sl7); (try clear sl8); (try clear sl18); (try clear sl19); have sl2 := gl2; clear gl2; have sl3 := gl3; clear gl3; have sl7 := gl7; clear gl7; have sl8 := gl8; clear gl8; have sl18 := gl18; clear gl18; have sl19 := gl19; clear gl19)
  (refine listF_step rfl (fun K' hK => ?_); unfold opF; go_simp; refine (rquote_any r j _).mono ?_; rintro e w4 ⟨rfl, hb4⟩; refine ⟨_, rfl, hK _ _ ?_⟩; clear hK K')
  clear k3_0 k3_1 k3_2 k3_3 k3_4 k3_s k4_0 k4_1 k4_2 k4_3 k4_s
  replace k3 := k3.at hb4
  replace k4 := k4.at hb4
  have HB2 := hid (HB1.out.trans (hb4.mono HB1.out.size) : Below w.heap.size w w4)
  clear hb4 HB1
  have k3_0 := k3.cell 0 rfl
  have k3_1 := k3.cell 1 rfl
  have k3_2 := k3.cell 2 rfl
  have k3_3 := k3.cell 3 rfl
  have k3_4 := k3.cell 4 rfl
  have k3_s := k3.1
  have n1 : (quote r j != quote r j) = false := by simp
  have n2 : (quoteErr r j != quoteErr r j) = false := by simp
  (refine listF_abs ?_; intro s' hs'; have gl2 := congrFun hs' 2; simp only [updS_some, updS_none, Nat.reduceEqDiff, ↓reduceIte] at gl2; (try rw [sl2] at gl2); have gl3 := congrFun hs' 3; simp only [updS_some, updS_none, Nat.reduceEqDiff, ↓reduceIte] at gl3; (try rw [sl3] at gl3); have gl7 := congrFun hs' 7; simp only [updS_some, updS_none, Nat.reduceEqDiff, ↓reduceIte] at gl7; (try rw [sl7] at gl7); have gl8 := congrFun hs' 8; simp only [updS_some, updS_none, Nat.reduceEqDiff, ↓reduceIte] at gl8; (try rw [sl8] at gl8); have gl20 := congrFun hs' 20; simp only [updS_some, updS_none, Nat.reduceEqDiff, ↓reduceIte] at gl20; (try rw [sl20] at gl20); clear hs'; (try clear sl2); (try clear sl3); (try clear sl7); (try clear sl8); (try clear sl20); have sl2 := gl2; clear gl2; have sl3 := gl3; clear gl3; have sl7 := gl7; clear gl7; have sl8 := gl8; clear gl8; have sl20 := gl20; clear gl20)
  repeat (first | ((first | (refine listF_step rfl (fun K' hK => ?_)) | (refine listF_yes rfl rfl (by decide) ?_ (fun K' hK => ?_); (focus (go_simp; done)))); unfold opF; go_simp; (refine hK _ _ ?_); clear hK K') | (refine listF_no (b' := true) rfl rfl (by decide) ?_ ?_ ?_; (focus (go_simp; done)); (focus rfl)) | (refine listF_no (b' := false) rfl rfl (by decide) ?_ ?_ ?_; (focus (go_simp; done)); (focus rfl)) | (refine listF_nu rfl rfl (by decide) ?_ ?_; (focus (go_simp; done))) | (refine listF_nil ?_) | (refine region_F ?_) | (refine cond_F true ?_ ?_; (focus (go_simp; done)); simp only [if_true]) | (refine cond_F false ?_ ?_; (focus (go_simp; done)); simp only [Bool.false_eq_true, if_false]) | (with_reducible go_step))
  (refine listF_abs ?_; intro s' hs'; have gl2 := congrFun hs' 2; simp only [updS_some, updS_none, Nat.reduceEqDiff, ↓reduceIte] at gl2; (try rw [sl2] at gl2); have gl3 := congrFun hs' 3; simp only [updS_some, updS_none, Nat.reduceEqDiff, ↓reduceIte] at gl3; (try rw [sl3] at gl3); have gl32 := congrFun hs' 32; simp only [updS_some, updS_none, Nat.reduceEqDiff, ↓reduceIte] at gl32; (try rw [sl32] at gl32); have gl33 := congrFun hs' 33; simp only [updS_some, updS_none, Nat.reduceEqDiff, ↓reduceIte] at gl33; (try rw [sl33] at gl33); clear hs'; (try clear sl2); (try clear sl3); (try clear sl32); (try clear sl33); have sl2 := gl2; clear gl2; have sl3 := gl3; clear gl3; have sl32 := gl32; clear gl32; have sl33 := gl33; clear gl33)
  (refine listF_step rfl (fun K' hK => ?_); unfold opF; go_simp; refine (qlongest_any r many _).mono ?_; rintro e w6 ⟨rfl, hb6⟩; refine ⟨_, rfl, hK _ _ ?_⟩; clear hK K')
  clear k3_0 k3_1 k3_2 k3_3 k3_4 k3_s
  replace k3 := k3.at hb6
  replace k4 := k4.at hb6
  have HB3 := hid (HB2.out.trans (hb6.mono HB2.out.size) : Below w.heap.size w w6)
  clear hb6 HB2
  have k3_0 := k3.cell 0 rfl
  have k3_1 := k3.cell 1 rfl
  have k3_2 := k3.cell 2 rfl
  have k3_3 := k3.cell 3 rfl
  have k3_4 := k3.cell 4 rfl
  have k3_s := k3.1
  (refine listF_abs ?_; intro s' hs'; have gl2 := congrFun hs' 2; simp only [updS_some, updS_none, Nat.reduceEqDiff, ↓reduceIte] at gl2; (try rw [sl2] at gl2); have gl3 := congrFun hs' 3; simp only [updS_some, updS_none, Nat.reduceEqDiff, ↓reduceIte] at gl3; (try rw [sl3] at gl3); have gl34 := congrFun hs' 34; simp only [updS_some, updS_none, Nat.reduceEqDiff, ↓reduceIte] at gl34; (try rw [sl34] at gl34); clear hs'; (try clear sl2); (try clear sl3); (try clear sl34); have sl2 := gl2; clear gl2; have sl3 := gl3; clear gl3; have sl34 := gl34; clear gl34)
  repeat (first | ((first | (refine listF_step rfl (fun K' hK => ?_)) | (refine listF_yes rfl rfl (by decide) ?_ (fun K' hK => ?_); (focus (go_simp; done)))); unfold opF; go_simp; (refine hK _ _ ?_); clear hK K') | (refine listF_no (b' := true) rfl rfl (by decide) ?_ ?_ ?_; (focus (go_simp; done)); (focus rfl)) | (refine listF_no (b' := false) rfl rfl (by decide) ?_ ?_ ?_; (focus (go_simp; done)); (focus rfl)) | (refine listF_nu rfl rfl (by decide) ?_ ?_; (focus (go_simp; done))) | (refine listF_nil ?_) | (refine region_F ?_) | (refine cond_F true ?_ ?_; (focus (go_simp; done)); simp only [if_true]) | (refine cond_F false ?_ ?_; (focus (go_simp; done)); simp only [Bool.false_eq_true, if_false]) | (with_reducible go_step))
  (refine listF_abs ?_; intro s' hs'; have gl7 := congrFun hs' 7; simp only [updS_some, updS_none, Nat.reduceEqDiff, ↓reduceIte] at gl7; (try rw [sl7] at gl7); have gl8 := congrFun hs' 8; simp only [updS_some, updS_none, Nat.reduceEqDiff, ↓reduceIte] at gl8; (try rw [sl8] at gl8); have gl38 := congrFun hs' 38; simp only [updS_some, updS_none, Nat.reduceEqDiff, ↓reduceIte] at gl38; (try rw [sl38] at gl38); have gl39 := congrFun hs' 39; simp only [updS_some, updS_none, Nat.reduceEqDiff, ↓reduceIte] at gl39; (try rw [sl39] at gl39); clear hs'; (try clear sl7); (try clear sl8); (try clear sl38); (try clear sl39); have sl7 := gl7; clear gl7; have sl8 := gl8; clear gl8; have sl38 := gl38; clear gl38; have sl39 := gl39; clear gl39)
  (refine listF_step rfl (fun K' hK => ?_); unfold opF; go_simp; refine (rlongest_any r many _).mono ?_; rintro e w8 ⟨rfl, hb8⟩; refine ⟨_, rfl, hK _ _ ?_⟩; clear hK K')
  clear k3_0 k3_1 k3_2 k3_3 k3_4 k3_s
  replace k3 := k3.at hb8
  replace k4 := k4.at hb8
  have HB4 := hid (HB3.out.trans (hb8.mono HB3.out.size) : Below w.heap.size w w8)
  clear hb8 HB3
  have n3 : (longest r many == longest r many) = true := by simp
  have n4 : (longErr r many == longErr r many) = true := by simp
  (refine listF_abs ?_; intro s' hs'; have gl7 := congrFun hs' 7; simp only [updS_some, updS_none, Nat.reduceEqDiff, ↓reduceIte] at gl7; (try rw [sl7] at gl7); have gl8 := congrFun hs' 8; simp only [updS_some, updS_none, Nat.reduceEqDiff, ↓reduceIte] at gl8; (try rw [sl8] at gl8); have gl40 := congrFun hs' 40; simp only [updS_some, updS_none, Nat.reduceEqDiff, ↓reduceIte] at gl40; (try rw [sl40] at gl40); clear hs'; (try clear sl7); (try clear sl8); (try clear sl40); have sl7 := gl7; clear gl7; have sl8 := gl8; clear gl8; have sl40 := gl40; clear gl40)
  repeat (first | ((first | (refine listF_step rfl (fun K' hK => ?_)) | (refine listF_yes rfl rfl (by decide) ?_ (fun K' hK => ?_); (focus (go_simp; done)))); unfold opF; go_simp; (refine hK _ _ ?_); clear hK K') | (refine listF_no (b' := true) rfl rfl (by decide) ?_ ?_ ?_; (focus (go_simp; done)); (focus rfl)) | (refine listF_no (b' := false) rfl rfl (by decide) ?_ ?_ ?_; (focus (go_simp; done)); (focus rfl)) | (refine listF_nu rfl rfl (by decide) ?_ ?_; (focus (go_simp; done))) | (refine listF_nil ?_) | (refine region_F ?_) | (refine cond_F true ?_ ?_; (focus (go_simp; done)); simp only [if_true]) | (refine cond_F false ?_ ?_; (focus (go_simp; done)); simp only [Bool.false_eq_true, if_false]) | (with_reducible go_step))
  (refine listF_yes rfl rfl (by decide) ?_ (fun K' hK => ?_); (focus (go_simp; done)); unfold opF; go_simp; refine (awake_any _).mono ?_; rintro e w9 ⟨rfl, hb9⟩; refine ⟨_, rfl, hK _ _ ?_⟩; clear hK K')
  have HB5 := hid (HB4.out.trans (hb9.mono HB4.out.size) : Below w.heap.size w w9)
  clear hb9 HB4
  repeat (first | ((first | (refine listF_step rfl (fun K' hK => ?_)) | (refine listF_yes rfl rfl (by decide) ?_ (fun K' hK => ?_); (focus (go_simp; done)))); unfold opF; go_simp; (refine hK _ _ ?_); clear hK K') | (refine listF_no (b' := true) rfl rfl (by decide) ?_ ?_ ?_; (focus (go_simp; done)); (focus rfl)) | (refine listF_no (b' := false) rfl rfl (by decide) ?_ ?_ ?_; (focus (go_simp; done)); (focus rfl)) | (refine listF_nu rfl rfl (by decide) ?_ ?_; (focus (go_simp; done))) | (refine listF_nil ?_) | (refine region_F ?_) | (refine cond_F true ?_ ?_; (focus (go_simp; done)); simp only [if_true]) | (refine cond_F false ?_ ?_; (focus (go_simp; done)); simp only [Bool.false_eq_true, if_false]) | (with_reducible go_step))
  exact ret_F (.bool true) (res1_F Try.results6 (by decide) (by go_simp)) ⟨rfl, HB5.out⟩

end Go.Proofs.Ytbjgebbfachgfaa
