/- QueueCut: its walk. -/
import Derived.Test.YtbjgebbfachgfaacV3
import Derived.Test.YtbjgebbfachgfaacLP
set_option linter.unusedVariables false
set_option linter.unusedSimpArgs false
set_option linter.unusedSectionVars false
set_option linter.all false
namespace Go.Proofs.Ytbjgebbfachgfaa
open Go.RowKit

theorem Rd.pre {α : Type} {f : α → List Value} {m : Nat} {w : World} {a : Option Addr} {l r : List α} (h : Rd f m w a (l ++ r)) : Rd f m w a l := by
  rcases h with h | ⟨b, off, ha, hlt, hc⟩
  · exact .inl (List.append_eq_nil_iff.1 h).1
  · exact .inr ⟨b, off, ha, hlt, fun i x hi j v hj => hc i x (by rw [List.getElem?_append_left (List.getElem?_eq_some_iff.1 hi).1]; exact hi) j v hj⟩

theorem day_get {W : Work} {till : Int} {n : Nat} {l : List Spell} {s : Spell} {q : Qu} (hE : dayErr W till = 0) (h : DayI W till n (l ++ [s]) q) : ∃ h : l.length < (day W till).1.length, (day W till).1[l.length] = s := by
  have he := h.eq
  have hd : day W till = (l ++ [s] ++ (dayLoop W till n q).1, (dayLoop W till n q).2) := by unfold day; rw [if_pos hE, he]
  have h1 : (day W till).1 = l ++ s :: (dayLoop W till n q).1 := by rw [hd]; simp
  refine ⟨by rw [h1]; simp, ?_⟩
  simp only [h1]
  rw [List.getElem_append_right (Nat.le_refl _)]
  simp

set_option maxRecDepth 100000 in
set_option maxHeartbeats 8000000 in
theorem cut_walk (W : Work) (till less : Int) (aj af : Option Addr) (cj cf : Nat) (w : World) (hW : WorkIn w W aj af) (hl0 : 0 ≤ less) (hl1 : less ≤ 65535) :
    Calls Try.prog 8 #[.agg #[.int .i64 W.rules.slice, .int .i64 W.rules.load, .int .i64 W.rules.dump, .int .i64 W.rules.patience, .int .i64 W.rules.rate, .slice aj W.jobs.length cj, .slice af W.faults.length cf], .int .i64 till, .int .u16 less] w fun e w' => e = .returned (.bool true) ∧ Below w.heap.size w w' := by
  have HW := hid hW
  obtain ⟨hd1, hd2⟩ := day_len W till
  clear hW
  refine enter_F Try.func8 rfl Try.ntmps8 (by simp) ?_
  intro s hs
  have sl0 : s 0 = .agg #[.int .i64 W.rules.slice, .int .i64 W.rules.load, .int .i64 W.rules.dump, .int .i64 W.rules.patience, .int .i64 W.rules.rate, .slice aj W.jobs.length cj, .slice af W.faults.length cf] := hs 0 (by simp)
  have sl1 : s 1 = .int .i64 till := hs 1 (by simp)
  have sl2 : s 2 = .int .u16 less := hs 2 (by simp)
  clear hs
  repeat (first | ((first | (refine listF_step rfl (fun K' hK => ?_)) | (refine listF_yes rfl rfl (by decide) ?_ (fun K' hK => ?_); (focus (go_simp; done)))); unfold opF; go_simp; (refine hK _ _ ?_); clear hK K') | (refine listF_no (b' := true) rfl rfl (by decide) ?_ ?_ ?_; (focus (go_simp; done)); (focus rfl)) | (refine listF_no (b' := false) rfl rfl (by decide) ?_ ?_ ?_; (focus (go_simp; done)); (focus rfl)) | (refine listF_nu rfl rfl (by decide) ?_ ?_; (focus (go_simp; done))) | (refine listF_nil ?_) | (refine region_F ?_) | (refine cond_F true ?_ ?_; (focus (go_simp; done)); simp only [if_true]) | (refine cond_F false ?_ ?_; (focus (go_simp; done)); simp only [Bool.false_eq_true, if_false]) | (with_reducible go_step))
  refine listF_absw ?_
  intro w1 hw1
  have k3 : Cells w1 w.heap.size #[.int .i64 W.rules.slice, .int .i64 W.rules.load, .int .i64 W.rules.dump, .int .i64 W.rules.patience, .int .i64 W.rules.rate, .slice aj W.jobs.length cj, .slice af W.faults.length cf].toList := by rw [hw1]; exact Cells.new rfl
  have HB0 := hid (show Below w.heap.size w w1 by rw [hw1]; exact (by repeat (first | (with_reducible exact Below.refl _ w) | (with_reducible refine bdrewN ?_ _) | (with_reducible refine Below.drew ?_) | (with_reducible refine Below.setCell ?_ (by first | omega | (simp; done) | (simp; omega)) _) | (with_reducible refine Below.alloc ?_ (by first | omega | (simp; done) | (simp; omega)) _))))
  clear hw1
  (refine listF_abs ?_; intro s' hs'; have gl1 := congrFun hs' 1; simp only [updS_some, updS_none, Nat.reduceEqDiff, ↓reduceIte] at gl1; (try rw [sl1] at gl1); have gl2 := congrFun hs' 2; simp only [updS_some, updS_none, Nat.reduceEqDiff, ↓reduceIte] at gl2; (try rw [sl2] at gl2); have gl3 := congrFun hs' 3; simp only [updS_some, updS_none, Nat.reduceEqDiff, ↓reduceIte] at gl3; (try rw [sl3] at gl3); have gl20 := congrFun hs' 20; simp only [updS_some, updS_none, Nat.reduceEqDiff, ↓reduceIte] at gl20; (try rw [sl20] at gl20); have gl21 := congrFun hs' 21; simp only [updS_some, updS_none, Nat.reduceEqDiff, ↓reduceIte] at gl21; (try rw [sl21] at gl21); clear hs'; (try clear sl1); (try clear sl2); (try clear sl3); (try clear sl20); (try clear sl21); have sl1 := gl1; clear gl1; have sl2 := gl2; clear gl2; have sl3 := gl3; clear gl3; have sl20 := gl20; clear gl20; have sl21 := gl21; clear gl21)
  (refine listF_step rfl (fun K' hK => ?_); unfold opF; go_simp; refine (qDay_cap W till aj af cj cf _ (HW.out.at HB0.out)).mono ?_; rintro e w2 ⟨a7, c7, a8, c8, rfl, hl, hq, hb2, _, _, hcap⟩; refine ⟨_, rfl, hK _ _ ?_⟩; clear hK K')
  replace k3 := k3.at hb2
  have HB1 := hid (HB0.out.trans (hb2.mono HB0.out.size) : Below w.heap.size w w2)
  clear hb2 HB0
  (refine listF_abs ?_; intro s' hs'; have gl1 := congrFun hs' 1; simp only [updS_some, updS_none, Nat.reduceEqDiff, ↓reduceIte] at gl1; (try rw [sl1] at gl1); have gl2 := congrFun hs' 2; simp only [updS_some, updS_none, Nat.reduceEqDiff, ↓reduceIte] at gl2; (try rw [sl2] at gl2); have gl3 := congrFun hs' 3; simp only [updS_some, updS_none, Nat.reduceEqDiff, ↓reduceIte] at gl3; (try rw [sl3] at gl3); have gl22 := congrFun hs' 22; simp only [updS_some, updS_none, Nat.reduceEqDiff, ↓reduceIte] at gl22; (try rw [sl22] at gl22); clear hs'; (try clear sl1); (try clear sl2); (try clear sl3); (try clear sl22); have sl1 := gl1; clear gl1; have sl2 := gl2; clear gl2; have sl3 := gl3; clear gl3; have sl22 := gl22; clear gl22)
  by_cases hE : dayErr W till = 0
  · skip
    have hE' : (dayErr W till != 0) = false := by simp [hE]
    obtain ⟨hK, he, ht0, ht5⟩ := day_ok hE
    have HK := hid hK
    have He := hid he
    have HE := hid hE
    have n1 : decide (till < 0) = false := decide_eq_false (by omega)
    have n2 : decide (5000 < till) = false := decide_eq_false (by omega)
    rw [HE.out] at sl22
    clear hK he hE hE'
    have k3_0 := k3.cell 0 rfl
    have k3_1 := k3.cell 1 rfl
    have k3_2 := k3.cell 2 rfl
    have k3_3 := k3.cell 3 rfl
    have k3_4 := k3.cell 4 rfl
    have k3_5 := k3.cell 5 rfl
    have k3_6 := k3.cell 6 rfl
    have k3_s := k3.1
    repeat (first | ((first | (refine listF_step rfl (fun K' hK => ?_)) | (refine listF_yes rfl rfl (by decide) ?_ (fun K' hK => ?_); (focus (go_simp; done)))); unfold opF; go_simp; (refine hK _ _ ?_); clear hK K') | (refine listF_no (b' := true) rfl rfl (by decide) ?_ ?_ ?_; (focus (go_simp; done)); (focus rfl)) | (refine listF_no (b' := false) rfl rfl (by decide) ?_ ?_ ?_; (focus (go_simp; done)); (focus rfl)) | (refine listF_nu rfl rfl (by decide) ?_ ?_; (focus (go_simp; done))) | (refine listF_nil ?_) | (refine region_F ?_) | (refine cond_F true ?_ ?_; (focus (go_simp; done)); simp only [if_true]) | (refine cond_F false ?_ ?_; (focus (go_simp; done)); simp only [Bool.false_eq_true, if_false]) | (with_reducible go_step))
    refine listF_absw ?_
    intro w3 hw3
    have k80 : Cells w3 (w2.heap.size) [.int .i64 (day W till).2.now, .slice a8 (day W till).2.jobs.length c8] := by rw [hw3]; exact Cells.new (cs := #[.int .i64 (day W till).2.now, .slice a8 (day W till).2.jobs.length c8]) rfl
    have hbw3 : Below w2.heap.size w2 w3 := by rw [hw3]; exact (by repeat (first | (with_reducible exact Below.refl _ w2) | (with_reducible refine bdrewN ?_ _) | (with_reducible refine Below.drew ?_) | (with_reducible refine Below.setCell ?_ (by first | omega | (simp; done) | (simp; omega)) _) | (with_reducible refine Below.alloc ?_ (by first | omega | (simp; done) | (simp; omega)) _)))
    clear hw3
    clear k3_0 k3_1 k3_2 k3_3 k3_4 k3_5 k3_6 k3_s
    replace k3 := k3.at hbw3
    replace hl := Rd.at hl hbw3
    replace hq := Rd.at hq hbw3
    have HB2 := hid (HB1.out.trans (hbw3.mono HB1.out.size) : Below w.heap.size w w3)
    clear hbw3 HB1
    have k8 := k80
    clear k80
    (refine listF_abs ?_; intro s' hs'; have gl1 := congrFun hs' 1; simp only [updS_some, updS_none, Nat.reduceEqDiff, ↓reduceIte] at gl1; (try rw [sl1] at gl1); have gl2 := congrFun hs' 2; simp only [updS_some, updS_none, Nat.reduceEqDiff, ↓reduceIte] at gl2; (try rw [sl2] at gl2); have gl3 := congrFun hs' 3; simp only [updS_some, updS_none, Nat.reduceEqDiff, ↓reduceIte] at gl3; (try rw [sl3] at gl3); have gl7 := congrFun hs' 7; simp only [updS_some, updS_none, Nat.reduceEqDiff, ↓reduceIte] at gl7; (try rw [sl7] at gl7); have gl8 := congrFun hs' 8; simp only [updS_some, updS_none, Nat.reduceEqDiff, ↓reduceIte] at gl8; (try rw [sl8] at gl8); have gl41 := congrFun hs' 41; simp only [updS_some, updS_none, Nat.reduceEqDiff, ↓reduceIte] at gl41; (try rw [sl41] at gl41); clear hs'; (try clear sl1); (try clear sl2); (try clear sl3); (try clear sl7); (try clear sl8); (try clear sl41); have sl1 := gl1; clear gl1; have sl2 := gl2; clear gl2; have sl3 := gl3; clear gl3; have sl7 := gl7; clear gl7; have sl8 := gl8; clear gl8; have sl41 := gl41; clear gl41)
    generalize w2.heap.size = B8 at *
    (refine listF_step rfl (fun K' hK => ?_); unfold opF; go_simp; refine (qBegin_any W aj af cj cf _ (HW.out.at HB2.out)).mono ?_; rintro e w4 ⟨v0, rfl, ho, hb4⟩; refine ⟨_, rfl, hK _ _ ?_⟩; clear hK K')
    obtain ⟨a0, c0, rfl, hrd0, hfr0⟩ := Own.slice (f := St.cs) (m := 5) (fun _ => rfl) ho
    have Hfr0 := hid hfr0
    rw [begJobs_ok He.out] at hrd0 ⊢
    rw [He.out]
    clear ho hfr0
    replace k3 := k3.at hb4
    replace k8 := k8.at hb4
    replace hl := Rd.at hl hb4
    replace hq := Rd.at hq hb4
    have HB3 := hid (HB2.out.trans (hb4.mono HB2.out.size) : Below w.heap.size w w4)
    clear hb4 HB2
    (refine listF_abs ?_; intro s' hs'; have gl1 := congrFun hs' 1; simp only [updS_some, updS_none, Nat.reduceEqDiff, ↓reduceIte] at gl1; (try rw [sl1] at gl1); have gl2 := congrFun hs' 2; simp only [updS_some, updS_none, Nat.reduceEqDiff, ↓reduceIte] at gl2; (try rw [sl2] at gl2); have gl3 := congrFun hs' 3; simp only [updS_some, updS_none, Nat.reduceEqDiff, ↓reduceIte] at gl3; (try rw [sl3] at gl3); have gl7 := congrFun hs' 7; simp only [updS_some, updS_none, Nat.reduceEqDiff, ↓reduceIte] at gl7; (try rw [sl7] at gl7); have gl8 := congrFun hs' 8; simp only [updS_some, updS_none, Nat.reduceEqDiff, ↓reduceIte] at gl8; (try rw [sl8] at gl8); have gl42 := congrFun hs' 42; simp only [updS_some, updS_none, Nat.reduceEqDiff, ↓reduceIte] at gl42; (try rw [sl42] at gl42); clear hs'; (try clear sl1); (try clear sl2); (try clear sl3); (try clear sl7); (try clear sl8); (try clear sl42); have sl1 := gl1; clear gl1; have sl2 := gl2; clear gl2; have sl3 := gl3; clear gl3; have sl7 := gl7; clear gl7; have sl8 := gl8; clear gl8; have sl42 := gl42; clear gl42)
    repeat (first | ((first | (refine listF_step rfl (fun K' hK => ?_)) | (refine listF_yes rfl rfl (by decide) ?_ (fun K' hK => ?_); (focus (go_simp; done)))); unfold opF; go_simp; (refine hK _ _ ?_); clear hK K') | (refine listF_no (b' := true) rfl rfl (by decide) ?_ ?_ ?_; (focus (go_simp; done)); (focus rfl)) | (refine listF_no (b' := false) rfl rfl (by decide) ?_ ?_ ?_; (focus (go_simp; done)); (focus rfl)) | (refine listF_nu rfl rfl (by decide) ?_ ?_; (focus (go_simp; done))) | (refine listF_nil ?_) | (refine region_F ?_) | (refine cond_F true ?_ ?_; (focus (go_simp; done)); simp only [if_true]) | (refine cond_F false ?_ ?_; (focus (go_simp; done)); simp only [Bool.false_eq_true, if_false]) | (with_reducible go_step))
    refine wp_absw ?_
    intro wl hwl
    have k10 : Cells wl w4.heap.size [.int .i64 0, .slice a0 (beginQ W).jobs.length c0] := by rw [hwl]; exact Cells.new (cs := #[.int .i64 0, .slice a0 (beginQ W).jobs.length c0]) rfl
    have hbl : Below w4.heap.size w4 wl := by rw [hwl]; exact (by repeat (first | (with_reducible exact Below.refl _ w4) | (with_reducible refine bdrewN ?_ _) | (with_reducible refine Below.drew ?_) | (with_reducible refine Below.setCell ?_ (by first | omega | (simp; done) | (simp; omega)) _) | (with_reducible refine Below.alloc ?_ (by first | omega | (simp; done) | (simp; omega)) _)))
    have hsl : wl.heap.size = w4.heap.size + 1 := by rw [hwl]; simp
    clear hwl
    skip
    have hrdl := Rd.at hrd0 hbl
    (refine wp_abs ?_; intro s' hs'; have gl1 := congrFun hs' 1; simp only [updS_some, updS_none, Nat.reduceEqDiff, ↓reduceIte] at gl1; (try rw [sl1] at gl1); have gl2 := congrFun hs' 2; simp only [updS_some, updS_none, Nat.reduceEqDiff, ↓reduceIte] at gl2; (try rw [sl2] at gl2); have gl3 := congrFun hs' 3; simp only [updS_some, updS_none, Nat.reduceEqDiff, ↓reduceIte] at gl3; (try rw [sl3] at gl3); have gl7 := congrFun hs' 7; simp only [updS_some, updS_none, Nat.reduceEqDiff, ↓reduceIte] at gl7; (try rw [sl7] at gl7); have gl8 := congrFun hs' 8; simp only [updS_some, updS_none, Nat.reduceEqDiff, ↓reduceIte] at gl8; (try rw [sl8] at gl8); have gl10 := congrFun hs' 10; simp only [updS_some, updS_none, Nat.reduceEqDiff, ↓reduceIte] at gl10; (try rw [sl10] at gl10); have gl12 := congrFun hs' 12; simp only [updS_some, updS_none, Nat.reduceEqDiff, ↓reduceIte] at gl12; (try rw [sl12] at gl12); clear hs'; (try clear sl1); (try clear sl2); (try clear sl3); (try clear sl7); (try clear sl8); (try clear sl10); (try clear sl12); have sl1 := gl1; clear gl1; have sl2 := gl2; clear gl2; have sl3 := gl3; clear gl3; have sl7 := gl7; clear gl7; have sl8 := gl8; clear gl8; have sl10 := gl10; clear gl10; have sl12 := gl12; clear gl12)
    have hG0 := HK.out.jl
    refine loop_F (n := 168) (fun m s wr => ∃ (lst : List Spell) (qc : Qu) (a : Option Addr) (c : Nat), DayI W till m lst qc ∧ s 1 = .int .i64 till ∧ s 2 = .int .u16 less ∧ s 3 = .pointer (some ⟨w.heap.size, 0, none⟩) ∧ s 7 = .slice a7 (day W till).1.length c7 ∧ s 8 = .pointer (some ⟨B8, 0, none⟩) ∧ s 10 = .pointer (some ⟨w4.heap.size, 0, none⟩) ∧ s 12 = .int .i64 lst.length ∧ Cells wr w4.heap.size [.int .i64 qc.now, .slice a qc.jobs.length c] ∧ RdSts wr a qc.jobs ∧ Below w4.heap.size w4 wr) (k0 := till.toNat) ⟨[], beginQ W, a0, c0, DayI.start HK.out, sl1, sl2, sl3, sl7, sl8, sl10, sl12, k10, hrdl, hbl⟩ ?_
    clear sl1 sl2 sl3 sl7 sl8 sl10 sl12 k10 hrdl hbl
    rintro m s wr ⟨lst, qc, a, c, hDI, sl1, sl2, sl3, sl7, sl8, sl10, sl12, k10, hqc, hB⟩
    have hjl := hDI.ok.len
    have hlm : qc.jobs.length ≤ 9223372036854775807 := by omega
    have HDI := hid hDI
    have Hjl := hid hjl
    clear hDI hjl
    have c10_0 := k10.cell 0 rfl
    have c10_1 := k10.cell 1 rfl
    have c10_s := k10.1
    have HB := hid hB
    have k3' := k3.at hB
    have k8' := k8.at hB
    have hlr := Rd.at hl hB
    have hqr := Rd.at hq hB
    clear hB
    repeat (first | (refine wp_seq_k (fun K' hK' => ?_)) | (refine wp_block ?_))
    refine cut_F (fun s w5 => s 1 = .int .i64 till ∧ s 2 = .int .u16 less ∧ s 3 = .pointer (some ⟨w.heap.size, 0, none⟩) ∧ s 7 = .slice a7 (day W till).1.length c7 ∧ s 8 = .pointer (some ⟨B8, 0, none⟩) ∧ s 10 = .pointer (some ⟨w4.heap.size, 0, none⟩) ∧ s 12 = .int .i64 lst.length ∧ s 62 = .bool (decide (qc.now < till) && waits qc.jobs) ∧ Below wr.heap.size wr w5) ?_ ?_
    · rcases dec_or (qc.now < till) with t1 | t1
      · repeat (first | ((first | (refine listF_step rfl (fun K' hK => ?_)) | (refine listF_yes rfl rfl (by decide) ?_ (fun K' hK => ?_); (focus (go_simp; done)))); unfold opF; go_simp; (refine hK _ _ ?_); clear hK K') | (refine listF_no (b' := true) rfl rfl (by decide) ?_ ?_ ?_; (focus (go_simp; done)); (focus rfl)) | (refine listF_no (b' := false) rfl rfl (by decide) ?_ ?_ ?_; (focus (go_simp; done)); (focus rfl)) | (refine listF_nu rfl rfl (by decide) ?_ ?_; (focus (go_simp; done))) | (refine listF_nil ?_) | (refine region_F ?_) | (refine cond_F true ?_ ?_; (focus (go_simp; done)); simp only [if_true]) | (refine cond_F false ?_ ?_; (focus (go_simp; done)); simp only [Bool.false_eq_true, if_false]) | (with_reducible go_step))
        (refine listF_yes rfl rfl (by decide) ?_ (fun K' hK => ?_); (focus (go_simp; done)); unfold opF; go_simp; refine (rwaits_any qc.now a c qc.jobs _ hlm hqc).mono ?_; rintro e w5 ⟨rfl, hb5⟩; refine ⟨_, rfl, hK _ _ ?_⟩; clear hK K')
        repeat (first | ((first | (refine listF_step rfl (fun K' hK => ?_)) | (refine listF_yes rfl rfl (by decide) ?_ (fun K' hK => ?_); (focus (go_simp; done)))); unfold opF; go_simp; (refine hK _ _ ?_); clear hK K') | (refine listF_no (b' := true) rfl rfl (by decide) ?_ ?_ ?_; (focus (go_simp; done)); (focus rfl)) | (refine listF_no (b' := false) rfl rfl (by decide) ?_ ?_ ?_; (focus (go_simp; done)); (focus rfl)) | (refine listF_nu rfl rfl (by decide) ?_ ?_; (focus (go_simp; done))) | (refine listF_nil ?_) | (refine region_F ?_) | (refine cond_F true ?_ ?_; (focus (go_simp; done)); simp only [if_true]) | (refine cond_F false ?_ ?_; (focus (go_simp; done)); simp only [Bool.false_eq_true, if_false]) | (with_reducible go_step))
        exact ⟨rfl, _, rfl, (by first | (go_simp; done) | exact sl1 | (simp only [updS_some, updS_none, Nat.reduceEqDiff, ↓reduceIte]; exact sl1)), (by first | (go_simp; done) | exact sl2 | (simp only [updS_some, updS_none, Nat.reduceEqDiff, ↓reduceIte]; exact sl2)), (by first | (go_simp; done) | exact sl3 | (simp only [updS_some, updS_none, Nat.reduceEqDiff, ↓reduceIte]; exact sl3)), (by first | (go_simp; done) | exact sl7 | (simp only [updS_some, updS_none, Nat.reduceEqDiff, ↓reduceIte]; exact sl7)), (by first | (go_simp; done) | exact sl8 | (simp only [updS_some, updS_none, Nat.reduceEqDiff, ↓reduceIte]; exact sl8)), (by first | (go_simp; done) | exact sl10 | (simp only [updS_some, updS_none, Nat.reduceEqDiff, ↓reduceIte]; exact sl10)), (by first | (go_simp; done) | exact sl12 | (simp only [updS_some, updS_none, Nat.reduceEqDiff, ↓reduceIte]; exact sl12)), by simp [t1], hb5⟩
      · repeat (first | ((first | (refine listF_step rfl (fun K' hK => ?_)) | (refine listF_yes rfl rfl (by decide) ?_ (fun K' hK => ?_); (focus (go_simp; done)))); unfold opF; go_simp; (refine hK _ _ ?_); clear hK K') | (refine listF_no (b' := true) rfl rfl (by decide) ?_ ?_ ?_; (focus (go_simp; done)); (focus rfl)) | (refine listF_no (b' := false) rfl rfl (by decide) ?_ ?_ ?_; (focus (go_simp; done)); (focus rfl)) | (refine listF_nu rfl rfl (by decide) ?_ ?_; (focus (go_simp; done))) | (refine listF_nil ?_) | (refine region_F ?_) | (refine cond_F true ?_ ?_; (focus (go_simp; done)); simp only [if_true]) | (refine cond_F false ?_ ?_; (focus (go_simp; done)); simp only [Bool.false_eq_true, if_false]) | (with_reducible go_step))
        exact ⟨rfl, _, rfl, (by first | (go_simp; done) | exact sl1 | (simp only [updS_some, updS_none, Nat.reduceEqDiff, ↓reduceIte]; exact sl1)), (by first | (go_simp; done) | exact sl2 | (simp only [updS_some, updS_none, Nat.reduceEqDiff, ↓reduceIte]; exact sl2)), (by first | (go_simp; done) | exact sl3 | (simp only [updS_some, updS_none, Nat.reduceEqDiff, ↓reduceIte]; exact sl3)), (by first | (go_simp; done) | exact sl7 | (simp only [updS_some, updS_none, Nat.reduceEqDiff, ↓reduceIte]; exact sl7)), (by first | (go_simp; done) | exact sl8 | (simp only [updS_some, updS_none, Nat.reduceEqDiff, ↓reduceIte]; exact sl8)), (by first | (go_simp; done) | exact sl10 | (simp only [updS_some, updS_none, Nat.reduceEqDiff, ↓reduceIte]; exact sl10)), (by first | (go_simp; done) | exact sl12 | (simp only [updS_some, updS_none, Nat.reduceEqDiff, ↓reduceIte]; exact sl12)), by simp [t1], Below.refl _ _⟩
    clear sl1 sl2 sl3 sl7 sl8 sl10 sl12 c10_0 c10_1 c10_s
    rintro s w5 ⟨sl1, sl2, sl3, sl7, sl8, sl10, sl12, sl62, hb5⟩
    replace k3' := k3'.at hb5
    replace k8' := k8'.at hb5
    replace k10 := k10.at hb5
    replace hlr := Rd.at hlr hb5
    replace hqr := Rd.at hqr hb5
    replace hqc := Rd.at hqc hb5
    have HB5 := hid (HB.out.trans (hb5.mono HB.out.size) : Below w4.heap.size w4 w5)
    have HW5 := hid (HB3.out.trans (HB5.out.mono HB3.out.size) : Below w.heap.size w w5)
    clear hb5 HB
    have hs45 : w4.heap.size < w5.heap.size := k10.1
    rcases Bool.eq_false_or_eq_true (decide (qc.now < till) && waits qc.jobs) with hc | hc
    · rw [hc] at sl62
      simp only [Bool.and_eq_true, decide_eq_true_eq] at hc
      obtain ⟨hnw, hwt⟩ := hc
      obtain ⟨m', rfl, hDI'⟩ := HDI.out.next HK.out ht5 hnw hwt
      have hst := step_ok HK.out HDI.out.ok hwt (by omega)
      have hres := HDI.out.ok.res He.out hwt
      have Hst := hid hst
      have HDn := hid hDI'
      have Hres := hid hres
      clear hst hres hDI' hnw hwt
      have c10_0 := k10.cell 0 rfl
      have c10_1 := k10.cell 1 rfl
      have c10_s := k10.1
      have k3'_0 := k3'.cell 0 rfl
      have k3'_1 := k3'.cell 1 rfl
      have k3'_2 := k3'.cell 2 rfl
      have k3'_3 := k3'.cell 3 rfl
      have k3'_4 := k3'.cell 4 rfl
      have k3'_5 := k3'.cell 5 rfl
      have k3'_6 := k3'.cell 6 rfl
      have k3'_s := k3'.1
      repeat (first | ((first | (refine listF_step rfl (fun K' hK => ?_)) | (refine listF_yes rfl rfl (by decide) ?_ (fun K' hK => ?_); (focus (go_simp; done)))); unfold opF; go_simp; (refine hK _ _ ?_); clear hK K') | (refine listF_no (b' := true) rfl rfl (by decide) ?_ ?_ ?_; (focus (go_simp; done)); (focus rfl)) | (refine listF_no (b' := false) rfl rfl (by decide) ?_ ?_ ?_; (focus (go_simp; done)); (focus rfl)) | (refine listF_nu rfl rfl (by decide) ?_ ?_; (focus (go_simp; done))) | (refine listF_nil ?_) | (refine region_F ?_) | (refine cond_F true ?_ ?_; (focus (go_simp; done)); simp only [if_true]) | (refine cond_F false ?_ ?_; (focus (go_simp; done)); simp only [Bool.false_eq_true, if_false]) | (with_reducible go_step))
      (refine listF_abs ?_; intro s' hs'; have gl1 := congrFun hs' 1; simp only [updS_some, updS_none, Nat.reduceEqDiff, ↓reduceIte] at gl1; (try rw [sl1] at gl1); have gl2 := congrFun hs' 2; simp only [updS_some, updS_none, Nat.reduceEqDiff, ↓reduceIte] at gl2; (try rw [sl2] at gl2); have gl3 := congrFun hs' 3; simp only [updS_some, updS_none, Nat.reduceEqDiff, ↓reduceIte] at gl3; (try rw [sl3] at gl3); have gl7 := congrFun hs' 7; simp only [updS_some, updS_none, Nat.reduceEqDiff, ↓reduceIte] at gl7; (try rw [sl7] at gl7); have gl8 := congrFun hs' 8; simp only [updS_some, updS_none, Nat.reduceEqDiff, ↓reduceIte] at gl8; (try rw [sl8] at gl8); have gl10 := congrFun hs' 10; simp only [updS_some, updS_none, Nat.reduceEqDiff, ↓reduceIte] at gl10; (try rw [sl10] at gl10); have gl12 := congrFun hs' 12; simp only [updS_some, updS_none, Nat.reduceEqDiff, ↓reduceIte] at gl12; (try rw [sl12] at gl12); have gl64 := congrFun hs' 64; simp only [updS_some, updS_none, Nat.reduceEqDiff, ↓reduceIte] at gl64; (try rw [sl64] at gl64); have gl65 := congrFun hs' 65; simp only [updS_some, updS_none, Nat.reduceEqDiff, ↓reduceIte] at gl65; (try rw [sl65] at gl65); clear hs'; (try clear sl1); (try clear sl2); (try clear sl3); (try clear sl7); (try clear sl8); (try clear sl10); (try clear sl12); (try clear sl64); (try clear sl65); have sl1 := gl1; clear gl1; have sl2 := gl2; clear gl2; have sl3 := gl3; clear gl3; have sl7 := gl7; clear gl7; have sl8 := gl8; clear gl8; have sl10 := gl10; clear gl10; have sl12 := gl12; clear gl12; have sl64 := gl64; clear gl64; have sl65 := gl65; clear gl65)
      (refine listF_step rfl (fun K' hK => ?_); unfold opF; go_simp; refine (qNext_new W qc aj af a cj cf c _ (HW.out.at HW5.out) hqc).mono ?_; rintro e w6 ⟨a', c', rfl, hqn, hb6, hfr⟩; refine ⟨_, rfl, hK _ _ ?_⟩; clear hK K')
      rw [Hres.out] at hqn ⊢
      generalize nextStep W qc = ns at *
      obtain ⟨sp, qn⟩ := ns
      replace k3' := k3'.at hb6
      replace k8' := k8'.at hb6
      replace k10 := k10.at hb6
      replace hlr := Rd.at hlr hb6
      replace hqr := Rd.at hqr hb6
      have HB6 := hid (HB5.out.trans (hb6.mono HB5.out.size) : Below w4.heap.size w4 w6)
      have hs56 := hb6.size
      clear hb6 c10_0 c10_1 c10_s HB5 HW5 k3'_0 k3'_1 k3'_2 k3'_3 k3'_4 k3'_5 k3'_6 k3'_s hqc
      (refine listF_abs ?_; intro s' hs'; have gl1 := congrFun hs' 1; simp only [updS_some, updS_none, Nat.reduceEqDiff, ↓reduceIte] at gl1; (try rw [sl1] at gl1); have gl2 := congrFun hs' 2; simp only [updS_some, updS_none, Nat.reduceEqDiff, ↓reduceIte] at gl2; (try rw [sl2] at gl2); have gl3 := congrFun hs' 3; simp only [updS_some, updS_none, Nat.reduceEqDiff, ↓reduceIte] at gl3; (try rw [sl3] at gl3); have gl7 := congrFun hs' 7; simp only [updS_some, updS_none, Nat.reduceEqDiff, ↓reduceIte] at gl7; (try rw [sl7] at gl7); have gl8 := congrFun hs' 8; simp only [updS_some, updS_none, Nat.reduceEqDiff, ↓reduceIte] at gl8; (try rw [sl8] at gl8); have gl10 := congrFun hs' 10; simp only [updS_some, updS_none, Nat.reduceEqDiff, ↓reduceIte] at gl10; (try rw [sl10] at gl10); have gl12 := congrFun hs' 12; simp only [updS_some, updS_none, Nat.reduceEqDiff, ↓reduceIte] at gl12; (try rw [sl12] at gl12); have gl66 := congrFun hs' 66; simp only [updS_some, updS_none, Nat.reduceEqDiff, ↓reduceIte] at gl66; (try rw [sl66] at gl66); clear hs'; (try clear sl1); (try clear sl2); (try clear sl3); (try clear sl7); (try clear sl8); (try clear sl10); (try clear sl12); (try clear sl66); have sl1 := gl1; clear gl1; have sl2 := gl2; clear gl2; have sl3 := gl3; clear gl3; have sl7 := gl7; clear gl7; have sl8 := gl8; clear gl8; have sl10 := gl10; clear gl10; have sl12 := gl12; clear gl12; have sl66 := gl66; clear gl66)
      repeat (first | ((first | (refine listF_step rfl (fun K' hK => ?_)) | (refine listF_yes rfl rfl (by decide) ?_ (fun K' hK => ?_); (focus (go_simp; done)))); unfold opF; go_simp; (refine hK _ _ ?_); clear hK K') | (refine listF_no (b' := true) rfl rfl (by decide) ?_ ?_ ?_; (focus (go_simp; done)); (focus rfl)) | (refine listF_no (b' := false) rfl rfl (by decide) ?_ ?_ ?_; (focus (go_simp; done)); (focus rfl)) | (refine listF_nu rfl rfl (by decide) ?_ ?_; (focus (go_simp; done))) | (refine listF_nil ?_) | (refine region_F ?_) | (refine cond_F true ?_ ?_; (focus (go_simp; done)); simp only [if_true]) | (refine cond_F false ?_ ?_; (focus (go_simp; done)); simp only [Bool.false_eq_true, if_false]) | (with_reducible go_step))
      refine wp_absw ?_
      intro w7 hw7
      have k13 : Cells w7 w6.heap.size [.int .i64 sp.kind, .int .i64 sp.job, .int .i64 sp.from0, .int .i64 sp.until0] := by rw [hw7]; exact (Cells.new (cs := #[.int .i64 sp.kind, .int .i64 sp.job, .int .i64 sp.from0, .int .i64 sp.until0]) rfl).up _
      have k14 : Cells w7 (w6.heap.size + 1) [.int .i64 qn.now, .slice a' qn.jobs.length c'] := by rw [hw7]; exact Cells.new (cs := #[.int .i64 qn.now, .slice a' qn.jobs.length c']) (by first | omega | (simp; done) | (simp; omega))
      have hb7 : Below w6.heap.size w6 w7 := by rw [hw7]; exact (by repeat (first | (with_reducible exact Below.refl _ w6) | (with_reducible refine bdrewN ?_ _) | (with_reducible refine Below.drew ?_) | (with_reducible refine Below.setCell ?_ (by first | omega | (simp; done) | (simp; omega)) _) | (with_reducible refine Below.alloc ?_ (by first | omega | (simp; done) | (simp; omega)) _)))
      clear hw7
      replace k10 := k10.at hb7
      replace hlr := Rd.at hlr hb7
      replace hqn := Rd.at hqn hb7
      have HB7 := hid (HB6.out.trans (hb7.mono HB6.out.size) : Below w4.heap.size w4 w7)
      clear hb7 k3' k8' hqr HB6
      (refine wp_abs ?_; intro s' hs'; have gl1 := congrFun hs' 1; simp only [updS_some, updS_none, Nat.reduceEqDiff, ↓reduceIte] at gl1; (try rw [sl1] at gl1); have gl2 := congrFun hs' 2; simp only [updS_some, updS_none, Nat.reduceEqDiff, ↓reduceIte] at gl2; (try rw [sl2] at gl2); have gl3 := congrFun hs' 3; simp only [updS_some, updS_none, Nat.reduceEqDiff, ↓reduceIte] at gl3; (try rw [sl3] at gl3); have gl7 := congrFun hs' 7; simp only [updS_some, updS_none, Nat.reduceEqDiff, ↓reduceIte] at gl7; (try rw [sl7] at gl7); have gl8 := congrFun hs' 8; simp only [updS_some, updS_none, Nat.reduceEqDiff, ↓reduceIte] at gl8; (try rw [sl8] at gl8); have gl10 := congrFun hs' 10; simp only [updS_some, updS_none, Nat.reduceEqDiff, ↓reduceIte] at gl10; (try rw [sl10] at gl10); have gl12 := congrFun hs' 12; simp only [updS_some, updS_none, Nat.reduceEqDiff, ↓reduceIte] at gl12; (try rw [sl12] at gl12); have gl13 := congrFun hs' 13; simp only [updS_some, updS_none, Nat.reduceEqDiff, ↓reduceIte] at gl13; (try rw [sl13] at gl13); have gl14 := congrFun hs' 14; simp only [updS_some, updS_none, Nat.reduceEqDiff, ↓reduceIte] at gl14; (try rw [sl14] at gl14); have gl15 := congrFun hs' 15; simp only [updS_some, updS_none, Nat.reduceEqDiff, ↓reduceIte] at gl15; (try rw [sl15] at gl15); clear hs'; (try clear sl1); (try clear sl2); (try clear sl3); (try clear sl7); (try clear sl8); (try clear sl10); (try clear sl12); (try clear sl13); (try clear sl14); (try clear sl15); have sl1 := gl1; clear gl1; have sl2 := gl2; clear gl2; have sl3 := gl3; clear gl3; have sl7 := gl7; clear gl7; have sl8 := gl8; clear gl8; have sl10 := gl10; clear gl10; have sl12 := gl12; clear gl12; have sl13 := gl13; clear gl13; have sl14 := gl14; clear gl14; have sl15 := gl15; clear gl15)
      have hgl := day_get HE.out HDn.out
      obtain ⟨hlt, hget⟩ := hgl
      obtain ⟨b7, o7, rfl, hb7, d1, d2, d3, d4⟩ := RdSpells.ne hlr hlt
      rw [hget] at d1 d2 d3 d4
      obtain ⟨st1, st2, st3, st4⟩ := Hst.out
      simp only at st1 st3 st4
      have g1 : decide ((day W till).1.length ≤ lst.length) = false := decide_eq_false (by omega)
      have g3 : (sp.from0 != qc.now) = false := by simp [st3]
      have g4 : decide (sp.until0 ≤ sp.from0) = false := decide_eq_false (by omega)
      have g5 : (qn.now != sp.until0) = false := by simp [st4]
      have g6 : (lst.length : Int) < ((day W till).1.length : Int) := by omega
      have Hst3 := hid st3
      have Hst4 := hid st4
      have Hget := hid hget
      clear st2 st3 st4 st1 hget
      have c10_0 := k10.cell 0 rfl
      have c10_s := k10.1
      have e0 := k13.cell 0 rfl
      have e1 := k13.cell 1 rfl
      have e2 := k13.cell 2 rfl
      have e3 := k13.cell 3 rfl
      have es := k13.1
      have f0 := k14.cell 0 rfl
      have fs := k14.1
      refine regionQ_F (Below w7.heap.size w7) (by kernel_rfl) (by kernel_rfl) (Below.refl _ _).drew ?_
      repeat (first | (refine listQ_step (v := ?_) rfl ?_ ?_; rotate_left; (focus (intro wq hwq; obtain ⟨hcq, hfq⟩ := bcell hwq; go_simp; (first | rfl | (exact ⟨rfl, rfl⟩) | (fail))))) | (refine listQ_yes (v := ?_) rfl rfl (by decide) ?_ ?_ ?_; rotate_left; (focus (go_simp; done)); (focus (intro wq hwq; obtain ⟨hcq, hfq⟩ := bcell hwq; go_simp; (first | rfl | (exact ⟨rfl, rfl⟩) | (fail))))) | (refine listQ_no (b' := true) rfl rfl (by decide) ?_ ?_ ?_; (focus (go_simp; done)); (focus rfl)) | (refine listQ_no (b' := false) rfl rfl (by decide) ?_ ?_ ?_; (focus (go_simp; done)); (focus rfl)) | (refine listQ_nu rfl rfl (by decide) ?_ ?_; (focus (go_simp; done))) | (refine listQ_nil ?_))
      intro w8 hw8
      replace k10 := k10.at hw8
      replace k14 := k14.at hw8
      replace hqn := Rd.at hqn hw8
      have HB8 := hid (HB7.out.trans (hw8.mono HB7.out.size) : Below w4.heap.size w4 w8)
      clear hw8 HB7 k13 d1 d2 d3 d4 e0 e1 e2 e3 es f0 fs c10_0 c10_s hlr hb7
      have f0 := k14.cell 0 rfl
      have f1 := k14.cell 1 rfl
      have fs := k14.1
      have x0 := k10.cell 0 rfl
      have x1 := k10.cell 1 rfl
      have xs := k10.1
      have xz := k10.2.2
      have hll := (day_spells HE.out).1
      have hwk : IntKind.i64.wrap ((lst.length : Int) + 1) = (lst.length : Int) + 1 := IntWalk.i64_in _ (by omega)
      repeat (first | ((first | (refine listF_step rfl (fun K' hK => ?_)) | (refine listF_yes rfl rfl (by decide) ?_ (fun K' hK => ?_); (focus (go_simp; done)))); unfold opF; go_simp; (refine hK _ _ ?_); clear hK K') | (refine listF_no (b' := true) rfl rfl (by decide) ?_ ?_ ?_; (focus (go_simp; done)); (focus rfl)) | (refine listF_no (b' := false) rfl rfl (by decide) ?_ ?_ ?_; (focus (go_simp; done)); (focus rfl)) | (refine listF_nu rfl rfl (by decide) ?_ ?_; (focus (go_simp; done))) | (refine listF_nil ?_) | (refine region_F ?_) | (refine cond_F true ?_ ?_; (focus (go_simp; done)); simp only [if_true]) | (refine cond_F false ?_ ?_; (focus (go_simp; done)); simp only [Bool.false_eq_true, if_false]) | (with_reducible go_step))
      refine ⟨m', _, rfl, by omega, lst ++ [sp], qn, a', c', HDn.out, (by first | (go_simp; done) | exact sl1 | (simp only [updS_some, updS_none, Nat.reduceEqDiff, ↓reduceIte]; exact sl1)), (by first | (go_simp; done) | exact sl2 | (simp only [updS_some, updS_none, Nat.reduceEqDiff, ↓reduceIte]; exact sl2)), (by first | (go_simp; done) | exact sl3 | (simp only [updS_some, updS_none, Nat.reduceEqDiff, ↓reduceIte]; exact sl3)), (by first | (go_simp; done) | exact sl7 | (simp only [updS_some, updS_none, Nat.reduceEqDiff, ↓reduceIte]; exact sl7)), (by first | (go_simp; done) | exact sl8 | (simp only [updS_some, updS_none, Nat.reduceEqDiff, ↓reduceIte]; exact sl8)), (by first | (go_simp; done) | exact sl10 | (simp only [updS_some, updS_none, Nat.reduceEqDiff, ↓reduceIte]; exact sl10)), by go_simp, (by apply Cells.conv; (focus (repeat (first | (with_reducible exact k10) | (with_reducible apply Cells.set) | ((with_reducible apply Cells.setFar); case hn => omega) | (with_reducible apply Cells.up) | (with_reducible apply Cells.drew)))); rfl), ?_, (by repeat (first | (with_reducible exact HB8.out) | (with_reducible refine bdrewN ?_ _) | (with_reducible refine Below.drew ?_) | (with_reducible refine Below.setCell ?_ (by first | omega | (simp; done) | (simp; omega)) _) | (with_reducible refine Below.alloc ?_ (by first | omega | (simp; done) | (simp; omega)) _)))⟩
      exact Rd.two hqn (fun b hb => by have := hfr b hb; omega)
    · rw [hc] at sl62
      have hd := HDI.out.done hc
      have hday : day W till = (lst, qc) := by unfold day; rw [if_pos HE.out]; exact hd
      have hD2 : (day W till).2 = qc := by rw [hday]
      have n5 : ((lst.length : Int) != ((day W till).1.length : Int)) = false := by rw [hday]; simp
      have HD2 := hid hD2
      clear hd hday hD2 HDI
      have c10_0 := k10.cell 0 rfl
      have c10_1 := k10.cell 1 rfl
      have c10_s := k10.1
      have k8'_0 := k8'.cell 0 rfl
      have k8'_1 := k8'.cell 1 rfl
      have k8'_s := k8'.1
      repeat (first | ((first | (refine listF_step rfl (fun K' hK => ?_)) | (refine listF_yes rfl rfl (by decide) ?_ (fun K' hK => ?_); (focus (go_simp; done)))); unfold opF; go_simp; (refine hK _ _ ?_); clear hK K') | (refine listF_no (b' := true) rfl rfl (by decide) ?_ ?_ ?_; (focus (go_simp; done)); (focus rfl)) | (refine listF_no (b' := false) rfl rfl (by decide) ?_ ?_ ?_; (focus (go_simp; done)); (focus rfl)) | (refine listF_nu rfl rfl (by decide) ?_ ?_; (focus (go_simp; done))) | (refine listF_nil ?_) | (refine region_F ?_) | (refine cond_F true ?_ ?_; (focus (go_simp; done)); simp only [if_true]) | (refine cond_F false ?_ ?_; (focus (go_simp; done)); simp only [Bool.false_eq_true, if_false]) | (with_reducible go_step))
      (refine listF_yes rfl rfl (by decide) ?_ (fun K' hK => ?_); (focus (go_simp; done)); unfold opF; go_simp; refine (rqueues_any qc.now (day W till).2.now a a8 c c8 qc.jobs (day W till).2.jobs _ hlm hd2 hqc hqr).mono ?_; rintro e w6 ⟨rfl, hb6⟩; refine ⟨_, rfl, hK _ _ ?_⟩; clear hK K')
      rw [show decide ((⟨qc.now, qc.jobs⟩ : Qu) = ⟨(day W till).2.now, (day W till).2.jobs⟩) = true from decide_eq_true (by rw [HD2.out])]
      clear k8'_0 k8'_1 k8'_s
      clear n5 c10_0 c10_1 c10_s hqc hqr
      replace k3' := k3'.at hb6
      replace hlr := Rd.at hlr hb6
      have HW6 := hid (HW5.out.trans (hb6.mono HW5.out.size) : Below w.heap.size w w6)
      clear hb6 HB5 HW5
      (refine listF_abs ?_; intro s' hs'; have gl1 := congrFun hs' 1; simp only [updS_some, updS_none, Nat.reduceEqDiff, ↓reduceIte] at gl1; (try rw [sl1] at gl1); have gl2 := congrFun hs' 2; simp only [updS_some, updS_none, Nat.reduceEqDiff, ↓reduceIte] at gl2; (try rw [sl2] at gl2); have gl3 := congrFun hs' 3; simp only [updS_some, updS_none, Nat.reduceEqDiff, ↓reduceIte] at gl3; (try rw [sl3] at gl3); have gl7 := congrFun hs' 7; simp only [updS_some, updS_none, Nat.reduceEqDiff, ↓reduceIte] at gl7; (try rw [sl7] at gl7); have gl114 := congrFun hs' 114; simp only [updS_some, updS_none, Nat.reduceEqDiff, ↓reduceIte] at gl114; (try rw [sl114] at gl114); have gl117 := congrFun hs' 117; simp only [updS_some, updS_none, Nat.reduceEqDiff, ↓reduceIte] at gl117; (try rw [sl117] at gl117); clear hs'; (try clear sl1); (try clear sl2); (try clear sl3); (try clear sl7); (try clear sl114); (try clear sl117); have sl1 := gl1; clear gl1; have sl2 := gl2; clear gl2; have sl3 := gl3; clear gl3; have sl7 := gl7; clear gl7; have sl114 := gl114; clear gl114; have sl117 := gl117; clear gl117)
      obtain ⟨k, hk⟩ : ∃ k, less.tmod (till + 1) = k := ⟨_, rfl⟩
      have hk0 : 0 ≤ k := by rw [← hk]; exact Int.tmod_nonneg _ hl0
      have hk1 : k ≤ till := by have := Int.tmod_lt_of_pos less (show (0 : Int) < till + 1 by omega); omega
      have hwt : IntKind.i64.wrap (till + 1) = till + 1 := IntWalk.i64_in _ (by omega)
      have hwk : IntKind.i64.wrap k = k := IntWalk.i64_in _ (by omega)
      have hwl : IntKind.i64.wrap less = less := IntWalk.i64_in _ (by omega)
      have htz : ¬ till + 1 = 0 := by omega
      have k3'_0 := k3'.cell 0 rfl
      have k3'_1 := k3'.cell 1 rfl
      have k3'_2 := k3'.cell 2 rfl
      have k3'_3 := k3'.cell 3 rfl
      have k3'_4 := k3'.cell 4 rfl
      have k3'_5 := k3'.cell 5 rfl
      have k3'_6 := k3'.cell 6 rfl
      have k3'_s := k3'.1
      repeat (first | ((first | (refine listF_step rfl (fun K' hK => ?_)) | (refine listF_yes rfl rfl (by decide) ?_ (fun K' hK => ?_); (focus (go_simp; done)))); unfold opF; go_simp; (refine hK _ _ ?_); clear hK K') | (refine listF_no (b' := true) rfl rfl (by decide) ?_ ?_ ?_; (focus (go_simp; done)); (focus rfl)) | (refine listF_no (b' := false) rfl rfl (by decide) ?_ ?_ ?_; (focus (go_simp; done)); (focus rfl)) | (refine listF_nu rfl rfl (by decide) ?_ ?_; (focus (go_simp; done))) | (refine listF_nil ?_) | (refine region_F ?_) | (refine cond_F true ?_ ?_; (focus (go_simp; done)); simp only [if_true]) | (refine cond_F false ?_ ?_; (focus (go_simp; done)); simp only [Bool.false_eq_true, if_false]) | (with_reducible go_step))
      (refine listF_abs ?_; intro s' hs'; have gl1 := congrFun hs' 1; simp only [updS_some, updS_none, Nat.reduceEqDiff, ↓reduceIte] at gl1; (try rw [sl1] at gl1); have gl3 := congrFun hs' 3; simp only [updS_some, updS_none, Nat.reduceEqDiff, ↓reduceIte] at gl3; (try rw [sl3] at gl3); have gl7 := congrFun hs' 7; simp only [updS_some, updS_none, Nat.reduceEqDiff, ↓reduceIte] at gl7; (try rw [sl7] at gl7); have gl16 := congrFun hs' 16; simp only [updS_some, updS_none, Nat.reduceEqDiff, ↓reduceIte] at gl16; (try rw [sl16] at gl16); have gl126 := congrFun hs' 126; simp only [updS_some, updS_none, Nat.reduceEqDiff, ↓reduceIte] at gl126; (try rw [sl126] at gl126); have gl127 := congrFun hs' 127; simp only [updS_some, updS_none, Nat.reduceEqDiff, ↓reduceIte] at gl127; (try rw [sl127] at gl127); clear hs'; (try clear sl1); (try clear sl3); (try clear sl7); (try clear sl16); (try clear sl126); (try clear sl127); have sl1 := gl1; clear gl1; have sl3 := gl3; clear gl3; have sl7 := gl7; clear gl7; have sl16 := gl16; clear gl16; have sl126 := gl126; clear gl126; have sl127 := gl127; clear gl127)
      (refine listF_step rfl (fun K' hK => ?_); unfold opF; go_simp; refine (qDay_any W k aj af cj cf _ (HW.out.at HW6.out)).mono ?_; rintro e w7 ⟨am, cm, an, cn, rfl, hm, hn, hb7, _⟩; refine ⟨_, rfl, hK _ _ ?_⟩; clear hK K')
      obtain ⟨hEk, r, hdr, hrf⟩ := day_less HE.out hk0 hk1
      rw [hEk]
      have hlM : (day W k).1.length ≤ 9223372036854775807 := (day_len W k).1
      clear k3'_0 k3'_1 k3'_2 k3'_3 k3'_4 k3'_5 k3'_6 k3'_s
      replace hlr := Rd.at hlr hb7
      have HW7 := hid (HW6.out.trans (hb7.mono HW6.out.size) : Below w.heap.size w w7)
      clear hb7 HW6 hn hEk k3'
      (refine listF_abs ?_; intro s' hs'; have gl7 := congrFun hs' 7; simp only [updS_some, updS_none, Nat.reduceEqDiff, ↓reduceIte] at gl7; (try rw [sl7] at gl7); have gl16 := congrFun hs' 16; simp only [updS_some, updS_none, Nat.reduceEqDiff, ↓reduceIte] at gl16; (try rw [sl16] at gl16); have gl128 := congrFun hs' 128; simp only [updS_some, updS_none, Nat.reduceEqDiff, ↓reduceIte] at gl128; (try rw [sl128] at gl128); clear hs'; (try clear sl7); (try clear sl16); (try clear sl128); have sl7 := gl7; clear gl7; have sl16 := gl16; clear gl16; have sl128 := gl128; clear gl128)
      have hLM : (day W k).1.length ≤ (day W till).1.length := by rw [hdr]; simp
      have g1 : decide ((day W till).1.length < (day W k).1.length) = false := decide_eq_false (by omega)
      have hcap' : (day W k).1.length ≤ c7 := by omega
      have hlm' := hlr
      unfold RdSpells at hlm'
      rw [hdr] at hlm'
      have hpre : RdSpells w7 a7 (day W k).1 := Rd.pre hlm'
      have Hdr := hid hdr
      have Hrf := hid hrf
      clear hdr hrf hlm'
      repeat (first | ((first | (refine listF_step rfl (fun K' hK => ?_)) | (refine listF_yes rfl rfl (by decide) ?_ (fun K' hK => ?_); (focus (go_simp; done)))); unfold opF; go_simp; (refine hK _ _ ?_); clear hK K') | (refine listF_no (b' := true) rfl rfl (by decide) ?_ ?_ ?_; (focus (go_simp; done)); (focus rfl)) | (refine listF_no (b' := false) rfl rfl (by decide) ?_ ?_ ?_; (focus (go_simp; done)); (focus rfl)) | (refine listF_nu rfl rfl (by decide) ?_ ?_; (focus (go_simp; done))) | (refine listF_nil ?_) | (refine region_F ?_) | (refine cond_F true ?_ ?_; (focus (go_simp; done)); simp only [if_true]) | (refine cond_F false ?_ ?_; (focus (go_simp; done)); simp only [Bool.false_eq_true, if_false]) | (with_reducible go_step))
      (refine listF_yes rfl rfl (by decide) ?_ (fun K' hK => ?_); (focus (go_simp; done)); unfold opF; go_simp; refine (rspells_any am a7 cm c7 (day W k).1 (day W k).1 _ hlM hlM (Rd.at hm (by repeat (first | (with_reducible exact Below.refl _ w7) | (with_reducible refine bdrewN ?_ _) | (with_reducible refine Below.drew ?_) | (with_reducible refine Below.setCell ?_ (by first | omega | (simp; done) | (simp; omega)) _) | (with_reducible refine Below.alloc ?_ (by first | omega | (simp; done) | (simp; omega)) _)))) (Rd.at hpre (by repeat (first | (with_reducible exact Below.refl _ w7) | (with_reducible refine bdrewN ?_ _) | (with_reducible refine Below.drew ?_) | (with_reducible refine Below.setCell ?_ (by first | omega | (simp; done) | (simp; omega)) _) | (with_reducible refine Below.alloc ?_ (by first | omega | (simp; done) | (simp; omega)) _))))).mono ?_; rintro e w8 ⟨rfl, hb8⟩; refine ⟨_, rfl, hK _ _ ?_⟩; clear hK K')
      rw [show decide ((day W k).1 = (day W k).1) = true from decide_eq_true rfl]
      have hb78 : Below w7.heap.size w7 w8 := Below.trans (by repeat (first | (with_reducible exact Below.refl _ w7) | (with_reducible refine bdrewN ?_ _) | (with_reducible refine Below.drew ?_) | (with_reducible refine Below.setCell ?_ (by first | omega | (simp; done) | (simp; omega)) _) | (with_reducible refine Below.alloc ?_ (by first | omega | (simp; done) | (simp; omega)) _))) (hb8.mono (by simp))
      replace hlr := Rd.at hlr hb78
      have HW8 := hid (HW7.out.trans (hb78.mono HW7.out.size) : Below w.heap.size w w8)
      clear hb78 hb8 hm hpre g1 HW7
      (refine listF_abs ?_; intro s' hs'; have gl7 := congrFun hs' 7; simp only [updS_some, updS_none, Nat.reduceEqDiff, ↓reduceIte] at gl7; (try rw [sl7] at gl7); have gl16 := congrFun hs' 16; simp only [updS_some, updS_none, Nat.reduceEqDiff, ↓reduceIte] at gl16; (try rw [sl16] at gl16); have gl17 := congrFun hs' 17; simp only [updS_some, updS_none, Nat.reduceEqDiff, ↓reduceIte] at gl17; (try rw [sl17] at gl17); have gl141 := congrFun hs' 141; simp only [updS_some, updS_none, Nat.reduceEqDiff, ↓reduceIte] at gl141; (try rw [sl141] at gl141); have gl147 := congrFun hs' 147; simp only [updS_some, updS_none, Nat.reduceEqDiff, ↓reduceIte] at gl147; (try rw [sl147] at gl147); clear hs'; (try clear sl7); (try clear sl16); (try clear sl17); (try clear sl141); (try clear sl147); have sl7 := gl7; clear gl7; have sl16 := gl16; clear gl16; have sl17 := gl17; clear gl17; have sl141 := gl141; clear gl141; have sl147 := gl147; clear gl147)
      rcases r with _ | ⟨x, rs⟩
      · have e1 : (((day W k).1.length : Int) == ((day W till).1.length : Int)) = true := beq_iff_eq.2 (by rw [Hdr.out]; simp)
        repeat (first | ((first | (refine listF_step rfl (fun K' hK => ?_)) | (refine listF_yes rfl rfl (by decide) ?_ (fun K' hK => ?_); (focus (go_simp; done)))); unfold opF; go_simp; (refine hK _ _ ?_); clear hK K') | (refine listF_no (b' := true) rfl rfl (by decide) ?_ ?_ ?_; (focus (go_simp; done)); (focus rfl)) | (refine listF_no (b' := false) rfl rfl (by decide) ?_ ?_ ?_; (focus (go_simp; done)); (focus rfl)) | (refine listF_nu rfl rfl (by decide) ?_ ?_; (focus (go_simp; done))) | (refine listF_nil ?_) | (refine region_F ?_) | (refine cond_F true ?_ ?_; (focus (go_simp; done)); simp only [if_true]) | (refine cond_F false ?_ ?_; (focus (go_simp; done)); simp only [Bool.false_eq_true, if_false]) | (with_reducible go_step))
        (refine listF_yes rfl rfl (by decide) ?_ (fun K' hK => ?_); (focus (go_simp; done)); unfold opF; go_simp; refine (awake_any _).mono ?_; rintro e w9 ⟨rfl, hb9⟩; refine ⟨_, rfl, hK _ _ ?_⟩; clear hK K')
        repeat (first | ((first | (refine listF_step rfl (fun K' hK => ?_)) | (refine listF_yes rfl rfl (by decide) ?_ (fun K' hK => ?_); (focus (go_simp; done)))); unfold opF; go_simp; (refine hK _ _ ?_); clear hK K') | (refine listF_no (b' := true) rfl rfl (by decide) ?_ ?_ ?_; (focus (go_simp; done)); (focus rfl)) | (refine listF_no (b' := false) rfl rfl (by decide) ?_ ?_ ?_; (focus (go_simp; done)); (focus rfl)) | (refine listF_nu rfl rfl (by decide) ?_ ?_; (focus (go_simp; done))) | (refine listF_nil ?_) | (refine region_F ?_) | (refine cond_F true ?_ ?_; (focus (go_simp; done)); simp only [if_true]) | (refine cond_F false ?_ ?_; (focus (go_simp; done)); simp only [Bool.false_eq_true, if_false]) | (with_reducible go_step))
        exact ret_F (.bool true) (res1_F Try.results8 (by decide) (by go_simp)) ⟨rfl, HW8.out.trans (hb9.mono HW8.out.size)⟩
      · have hlt : (day W k).1.length < (day W till).1.length := by rw [Hdr.out]; simp
        have e1 : (((day W k).1.length : Int) == ((day W till).1.length : Int)) = false := beq_eq_false_iff_ne.2 (by omega)
        have hx : (day W till).1[(day W k).1.length] = x := by simp only [Hdr.out]; rw [List.getElem_append_right (Nat.le_refl _)]; simp
        obtain ⟨b7, o7, rfl, hb7, d1, d2, d3, d4⟩ := RdSpells.ne hlr hlt
        rw [hx] at d1 d2 d3 d4
        have e2 : decide (k ≤ x.from0) = true := decide_eq_true (Hrf.out x rs rfl)
        clear hx
        repeat (first | ((first | (refine listF_step rfl (fun K' hK => ?_)) | (refine listF_yes rfl rfl (by decide) ?_ (fun K' hK => ?_); (focus (go_simp; done)))); unfold opF; go_simp; (refine hK _ _ ?_); clear hK K') | (refine listF_no (b' := true) rfl rfl (by decide) ?_ ?_ ?_; (focus (go_simp; done)); (focus rfl)) | (refine listF_no (b' := false) rfl rfl (by decide) ?_ ?_ ?_; (focus (go_simp; done)); (focus rfl)) | (refine listF_nu rfl rfl (by decide) ?_ ?_; (focus (go_simp; done))) | (refine listF_nil ?_) | (refine region_F ?_) | (refine cond_F true ?_ ?_; (focus (go_simp; done)); simp only [if_true]) | (refine cond_F false ?_ ?_; (focus (go_simp; done)); simp only [Bool.false_eq_true, if_false]) | (with_reducible go_step))
        (refine listF_yes rfl rfl (by decide) ?_ (fun K' hK => ?_); (focus (go_simp; done)); unfold opF; go_simp; refine (awake_any _).mono ?_; rintro e w9 ⟨rfl, hb9⟩; refine ⟨_, rfl, hK _ _ ?_⟩; clear hK K')
        repeat (first | ((first | (refine listF_step rfl (fun K' hK => ?_)) | (refine listF_yes rfl rfl (by decide) ?_ (fun K' hK => ?_); (focus (go_simp; done)))); unfold opF; go_simp; (refine hK _ _ ?_); clear hK K') | (refine listF_no (b' := true) rfl rfl (by decide) ?_ ?_ ?_; (focus (go_simp; done)); (focus rfl)) | (refine listF_no (b' := false) rfl rfl (by decide) ?_ ?_ ?_; (focus (go_simp; done)); (focus rfl)) | (refine listF_nu rfl rfl (by decide) ?_ ?_; (focus (go_simp; done))) | (refine listF_nil ?_) | (refine region_F ?_) | (refine cond_F true ?_ ?_; (focus (go_simp; done)); simp only [if_true]) | (refine cond_F false ?_ ?_; (focus (go_simp; done)); simp only [Bool.false_eq_true, if_false]) | (with_reducible go_step))
        exact ret_F (.bool true) (res1_F Try.results8 (by decide) (by go_simp)) ⟨rfl, HW8.out.trans (hb9.mono HW8.out.size)⟩
  · skip
    have hE' : (dayErr W till != 0) = true := by simp [hE]
    have hG : day W till = ([], Qu.zero) := by unfold day; rw [if_neg hE]
    rw [hG] at hl hq sl22
    have HG := hid hG
    have HE := hid hE
    clear hG hE hl hq
    simp only [List.length_nil, Qu.zero] at sl22
    repeat (first | ((first | (refine listF_step rfl (fun K' hK => ?_)) | (refine listF_yes rfl rfl (by decide) ?_ (fun K' hK => ?_); (focus (go_simp; done)))); unfold opF; go_simp; (refine hK _ _ ?_); clear hK K') | (refine listF_no (b' := true) rfl rfl (by decide) ?_ ?_ ?_; (focus (go_simp; done)); (focus rfl)) | (refine listF_no (b' := false) rfl rfl (by decide) ?_ ?_ ?_; (focus (go_simp; done)); (focus rfl)) | (refine listF_nu rfl rfl (by decide) ?_ ?_; (focus (go_simp; done))) | (refine listF_nil ?_) | (refine region_F ?_) | (refine cond_F true ?_ ?_; (focus (go_simp; done)); simp only [if_true]) | (refine cond_F false ?_ ?_; (focus (go_simp; done)); simp only [Bool.false_eq_true, if_false]) | (with_reducible go_step))
    (refine listF_yes rfl rfl (by decide) ?_ (fun K' hK => ?_); (focus (go_simp; done)); unfold opF; go_simp; refine (awake_any _).mono ?_; rintro e w9 ⟨rfl, hb9⟩; refine ⟨_, rfl, hK _ _ ?_⟩; clear hK K')
    have hsx := HB1.out.size
    have HBx := hid (Below.trans ((by repeat (first | (with_reducible exact HB1.out) | (with_reducible refine bdrewN ?_ _) | (with_reducible refine Below.drew ?_) | (with_reducible refine Below.setCell ?_ (by first | omega | (simp; done) | (simp; omega)) _) | (with_reducible refine Below.alloc ?_ (by first | omega | (simp; done) | (simp; omega)) _)))) (hb9.mono (by have := HB1.out.size; simp; omega)) : Below w.heap.size w w9)
    repeat (first | ((first | (refine listF_step rfl (fun K' hK => ?_)) | (refine listF_yes rfl rfl (by decide) ?_ (fun K' hK => ?_); (focus (go_simp; done)))); unfold opF; go_simp; (refine hK _ _ ?_); clear hK K') | (refine listF_no (b' := true) rfl rfl (by decide) ?_ ?_ ?_; (focus (go_simp; done)); (focus rfl)) | (refine listF_no (b' := false) rfl rfl (by decide) ?_ ?_ ?_; (focus (go_simp; done)); (focus rfl)) | (refine listF_nu rfl rfl (by decide) ?_ ?_; (focus (go_simp; done))) | (refine listF_nil ?_) | (refine region_F ?_) | (refine cond_F true ?_ ?_; (focus (go_simp; done)); simp only [if_true]) | (refine cond_F false ?_ ?_; (focus (go_simp; done)); simp only [Bool.false_eq_true, if_false]) | (with_reducible go_step))
    exact ret_F (.bool true) (res1_F Try.results8 (by decide) (by go_simp)) ⟨rfl, HBx.out⟩

end Go.Proofs.Ytbjgebbfachgfaa
