/- QueueLater: its walk. -/
import Derived.Test.YtbjgebbfachgfaacLP
import Derived.Test.YtbjgebbfachgfaacPure11
import Derived.Test.YtbjgebbfachgfaacOreg
set_option linter.unusedVariables false
set_option linter.unusedSimpArgs false
set_option linter.unusedSectionVars false
set_option linter.all false
namespace Go.Proofs.Ytbjgebbfachgfaa
open Go.RowKit

theorem day_len' (W : Work) (till : Int) : (day W till).1.length ≤ 9223372036854775807 ∧ (day W till).2.jobs.length ≤ 9223372036854775807 := by
  by_cases h : dayErr W till = 0
  · have h1 := (day_spells h).1
    have h2 := (day_dok h).len
    have h3 := (day_ok h).1.jl
    omega
  · have : day W till = ([], Qu.zero) := by unfold day; rw [if_neg h]
    rw [this]; exact ⟨by simp, by simp [Qu.zero]⟩
theorem info_fault : (Try.prog.info? 63).map (fun i => (i.zero, i.size, i.bytes)) = some (some (.agg #[.int .i64 0, .int .i64 0]), 2, 16) := by kernel_rfl
theorem info_job : (Try.prog.info? 56).map (fun i => (i.zero, i.size, i.bytes)) = some (some (.agg #[.string ByteArray.empty, .int .i64 0, .int .i64 0, .int .i64 0]), 4, 40) := by kernel_rfl
theorem fault_one (x : Fault) : ∀ u ∈ x.cs, u.oneCell' = true := by intro u hu; simp [Fault.cs] at hu; rcases hu with rfl | rfl <;> rfl
theorem job_one (x : Job) : ∀ u ∈ x.cs, u.oneCell' = true := by intro u hu; simp [Job.cs] at hu; rcases hu with rfl | rfl | rfl | rfl <;> rfl
theorem cut_any {P : Program} {c : Code} {n : Nat} {ds : List Deferred} {Q : Exit → Act → World → Prop} {s0 : Nat → Value} {w0 : World} (K : (Nat → Value) → World → Prop)
    (h : c.wp P (fun e a w => e = .normal ∧ ∃ s, a = mkA n s ds ∧ K s w) (mkA n s0 ds) w0) (hK : ∀ s w, K s w → Q .normal (mkA n s ds) w) : c.wp P Q (mkA n s0 ds) w0 :=
  wp_mono h (by rintro e a w ⟨rfl, s, rfl, hk⟩; exact hK s w hk)
theorem nm_snoc {W : Work} {J : Job} (h : ∀ i (h : i < W.jobs.length), W.jobs[i].name.size ≤ 9223372036854775807) (hJ : J.name.size ≤ 9223372036854775807) : ∀ i (h : i < (withJob W J).jobs.length), (withJob W J).jobs[i].name.size ≤ 9223372036854775807 := by
  have key : ∀ i (h : i < (W.jobs ++ [J]).length), (W.jobs ++ [J])[i].name.size ≤ 9223372036854775807 := by
    intro i hi
    by_cases hl : i < W.jobs.length
    · rw [List.getElem_append_left hl]; exact h i hl
    · rw [List.getElem_append_right (by omega)]; simpa using hJ
  exact key
/-- what comes later changes nothing before -/
def LaterI (W W2 : Work) (till at0 : Int) : Prop := dayErr W till = 0 → W2.err = 0 → dayErr W2 till = 0 ∧ ∀ (i : Nat) (s : Spell), (day W till).1[i]? = some s → s.until0 ≤ at0 → (day W2 till).1[i]? = some s

set_option maxRecDepth 100000 in
set_option maxHeartbeats 8000000 in
theorem later_walk (W : Work) (till : Int) (J : Job) (F : Fault) (b : Bool) (aj af : Option Addr) (cj cf : Nat) (w : World) (hW : WorkIn w W aj af) (hjb : W.jobs.length * 40 ≤ 140737488351232) (hfb : W.faults.length * 16 ≤ 140737488351232) (hJn : J.name.size ≤ 9223372036854775807) :
    Calls Try.prog 14 #[.agg #[.int .i64 W.rules.slice, .int .i64 W.rules.load, .int .i64 W.rules.dump, .int .i64 W.rules.patience, .int .i64 W.rules.rate, .slice aj W.jobs.length cj, .slice af W.faults.length cf], .int .i64 till, .agg #[.string J.name, .int .i64 J.arrive, .int .i64 J.claim, .int .i64 J.needs, .int .i64 F.at0, .int .i64 F.rep, .bool b]] w fun e w' => e = .returned (.bool true) ∧ Below w.heap.size w w' := by
  obtain ⟨i0, hi0, hz0, hz1, hz2⟩ := info_parts info_fault
  obtain ⟨i1, hi1, hy0, hy1, hy2⟩ := info_parts info_job
  obtain ⟨hd1, hd2⟩ := day_len' W till
  have HW := hid hW
  clear hW
  refine enter_F Try.func14 rfl Try.ntmps14 (by simp) ?_
  intro s hs
  have sl0 : s 0 = .agg #[.int .i64 W.rules.slice, .int .i64 W.rules.load, .int .i64 W.rules.dump, .int .i64 W.rules.patience, .int .i64 W.rules.rate, .slice aj W.jobs.length cj, .slice af W.faults.length cf] := hs 0 (by simp)
  have sl1 : s 1 = .int .i64 till := hs 1 (by simp)
  have sl2 : s 2 = .agg #[.string J.name, .int .i64 J.arrive, .int .i64 J.claim, .int .i64 J.needs, .int .i64 F.at0, .int .i64 F.rep, .bool b] := hs 2 (by simp)
  clear hs
  repeat (first | ((first | (refine listF_step rfl (fun K' hK => ?_)) | (refine listF_yes rfl rfl (by decide) ?_ (fun K' hK => ?_); (focus (go_simp; done)))); unfold opF; go_simp; (refine hK _ _ ?_); clear hK K') | (refine listF_no (b' := true) rfl rfl (by decide) ?_ ?_ ?_; (focus (go_simp; done)); (focus rfl)) | (refine listF_no (b' := false) rfl rfl (by decide) ?_ ?_ ?_; (focus (go_simp; done)); (focus rfl)) | (refine listF_nu rfl rfl (by decide) ?_ ?_; (focus (go_simp; done))) | (refine listF_nil ?_) | (refine region_F ?_) | (refine cond_F true ?_ ?_; (focus (go_simp; done)); simp only [if_true]) | (refine cond_F false ?_ ?_; (focus (go_simp; done)); simp only [Bool.false_eq_true, if_false]) | (with_reducible go_step))
  refine listF_absw ?_
  intro w1 hw1
  have k3 : Cells w1 w.heap.size #[.int .i64 W.rules.slice, .int .i64 W.rules.load, .int .i64 W.rules.dump, .int .i64 W.rules.patience, .int .i64 W.rules.rate, .slice aj W.jobs.length cj, .slice af W.faults.length cf].toList := by rw [hw1]; exact (Cells.new rfl).up _
  have k5 : Cells w1 (w.heap.size + 1) [.string J.name, .int .i64 J.arrive, .int .i64 J.claim, .int .i64 J.needs, .int .i64 F.at0, .int .i64 F.rep, .bool b] := by rw [hw1]; exact Cells.new (cs := #[.string J.name, .int .i64 J.arrive, .int .i64 J.claim, .int .i64 J.needs, .int .i64 F.at0, .int .i64 F.rep, .bool b]) (by first | omega | (simp; done) | (simp; omega))
  have HB0 := hid (show Below w.heap.size w w1 by rw [hw1]; exact (by repeat (first | (with_reducible exact Below.refl _ w) | (with_reducible refine bdrewN ?_ _) | (with_reducible refine Below.drew ?_) | (with_reducible refine Below.setCell ?_ (by first | omega | (simp; done) | (simp; omega)) _) | (with_reducible refine Below.alloc ?_ (by first | omega | (simp; done) | (simp; omega)) _))))
  clear hw1
  (refine listF_abs ?_; intro s' hs'; have gl1 := congrFun hs' 1; simp only [updS_some, updS_none, Nat.reduceEqDiff, ↓reduceIte] at gl1; (try rw [sl1] at gl1); have gl3 := congrFun hs' 3; simp only [updS_some, updS_none, Nat.reduceEqDiff, ↓reduceIte] at gl3; (try rw [sl3] at gl3); have gl5 := congrFun hs' 5; simp only [updS_some, updS_none, Nat.reduceEqDiff, ↓reduceIte] at gl5; (try rw [sl5] at gl5); have gl16 := congrFun hs' 16; simp only [updS_some, updS_none, Nat.reduceEqDiff, ↓reduceIte] at gl16; (try rw [sl16] at gl16); have gl17 := congrFun hs' 17; simp only [updS_some, updS_none, Nat.reduceEqDiff, ↓reduceIte] at gl17; (try rw [sl17] at gl17); clear hs'; (try clear sl1); (try clear sl3); (try clear sl5); (try clear sl16); (try clear sl17); have sl1 := gl1; clear gl1; have sl3 := gl3; clear gl3; have sl5 := gl5; clear gl5; have sl16 := gl16; clear gl16; have sl17 := gl17; clear gl17)
  (refine listF_step rfl (fun K' hK => ?_); unfold opF; go_simp; refine (qDay_any W till aj af cj cf _ (HW.out.at HB0.out)).mono ?_; rintro e w2 ⟨a7, c7, a8, c8, rfl, hl, hq, hb2, hn7, _⟩; refine ⟨_, rfl, hK _ _ ?_⟩; clear hK K')
  have hs2 : w.heap.size + 1 < w1.heap.size := k5.1
  replace k3 := k3.at hb2
  replace k5 := k5.at hb2
  have HB1 := hid (HB0.out.trans (hb2.mono HB0.out.size) : Below w.heap.size w w2)
  have hs12 := hb2.size
  clear hb2 HB0 hq
  (refine listF_abs ?_; intro s' hs'; have gl1 := congrFun hs' 1; simp only [updS_some, updS_none, Nat.reduceEqDiff, ↓reduceIte] at gl1; (try rw [sl1] at gl1); have gl3 := congrFun hs' 3; simp only [updS_some, updS_none, Nat.reduceEqDiff, ↓reduceIte] at gl3; (try rw [sl3] at gl3); have gl5 := congrFun hs' 5; simp only [updS_some, updS_none, Nat.reduceEqDiff, ↓reduceIte] at gl5; (try rw [sl5] at gl5); have gl18 := congrFun hs' 18; simp only [updS_some, updS_none, Nat.reduceEqDiff, ↓reduceIte] at gl18; (try rw [sl18] at gl18); clear hs'; (try clear sl1); (try clear sl3); (try clear sl5); (try clear sl18); have sl1 := gl1; clear gl1; have sl3 := gl3; clear gl3; have sl5 := gl5; clear gl5; have sl18 := gl18; clear gl18)
  iterate 8 (refine listF_step rfl (fun K' hK => ?_); unfold opF; go_simp; refine hK _ _ ?_; clear hK K')
  refine listF_absw ?_
  intro w3 hw3
  have hbw3 : Below w2.heap.size w2 w3 := by rw [hw3]; exact (by repeat (first | (with_reducible exact Below.refl _ w2) | (with_reducible refine bdrewN ?_ _) | (with_reducible refine Below.drew ?_) | (with_reducible refine Below.setCell ?_ (by first | omega | (simp; done) | (simp; omega)) _) | (with_reducible refine Below.alloc ?_ (by first | omega | (simp; done) | (simp; omega)) _)))
  clear hw3
  replace k3 := k3.at hbw3
  replace k5 := k5.at hbw3
  replace hl := Rd.at hl hbw3
  have HB2 := hid (HB1.out.trans (hbw3.mono HB1.out.size) : Below w.heap.size w w3)
  have hs23 := hbw3.size
  clear hbw3 HB1
  (refine listF_abs ?_; intro s' hs'; have gl1 := congrFun hs' 1; simp only [updS_some, updS_none, Nat.reduceEqDiff, ↓reduceIte] at gl1; (try rw [sl1] at gl1); have gl3 := congrFun hs' 3; simp only [updS_some, updS_none, Nat.reduceEqDiff, ↓reduceIte] at gl3; (try rw [sl3] at gl3); have gl5 := congrFun hs' 5; simp only [updS_some, updS_none, Nat.reduceEqDiff, ↓reduceIte] at gl5; (try rw [sl5] at gl5); have gl7 := congrFun hs' 7; simp only [updS_some, updS_none, Nat.reduceEqDiff, ↓reduceIte] at gl7; (try rw [sl7] at gl7); have gl9 := congrFun hs' 9; simp only [updS_some, updS_none, Nat.reduceEqDiff, ↓reduceIte] at gl9; (try rw [sl9] at gl9); clear hs'; (try clear sl1); (try clear sl3); (try clear sl5); (try clear sl7); (try clear sl9); have sl1 := gl1; clear gl1; have sl3 := gl3; clear gl3; have sl5 := gl5; clear gl5; have sl7 := gl7; clear gl7; have sl9 := gl9; clear gl9)
  have k3_0 := k3.cell 0 rfl
  have k3_1 := k3.cell 1 rfl
  have k3_2 := k3.cell 2 rfl
  have k3_3 := k3.cell 3 rfl
  have k3_4 := k3.cell 4 rfl
  have k3_5 := k3.cell 5 rfl
  have k3_6 := k3.cell 6 rfl
  have k3_s := k3.1
  have k5_0 := k5.cell 0 rfl
  have k5_1 := k5.cell 1 rfl
  have k5_2 := k5.cell 2 rfl
  have k5_3 := k5.cell 3 rfl
  have k5_4 := k5.cell 4 rfl
  have k5_5 := k5.cell 5 rfl
  have k5_6 := k5.cell 6 rfl
  have k5_s := k5.1
  repeat (first | ((first | (refine listF_step rfl (fun K' hK => ?_)) | (refine listF_yes rfl rfl (by decide) ?_ (fun K' hK => ?_); (focus (go_simp; done)))); unfold opF; go_simp; (refine hK _ _ ?_); clear hK K') | (refine listF_no (b' := true) rfl rfl (by decide) ?_ ?_ ?_; (focus (go_simp; done)); (focus rfl)) | (refine listF_no (b' := false) rfl rfl (by decide) ?_ ?_ ?_; (focus (go_simp; done)); (focus rfl)) | (refine listF_nu rfl rfl (by decide) ?_ ?_; (focus (go_simp; done))) | (refine listF_nil ?_) | (refine region_F ?_) | (refine cond_F true ?_ ?_; (focus (go_simp; done)); simp only [if_true]) | (refine cond_F false ?_ ?_; (focus (go_simp; done)); simp only [Bool.false_eq_true, if_false]) | (with_reducible go_step))
  refine regionR_F [] [] [4] [.q [], .q [], .q [], .q [], .a, .st 4, .q []] [?v1_0, ?v1_1, ?v1_2, ?v1_3, ?v1_4, fun _ => undef, ?v1_6] [fun _ => [], fun _ => [], fun _ => [], fun _ => [], ?c1_4, ?c1_5, fun _ => []] (by kernel_rfl) (by kernel_rfl) (by kernel_rfl) (by kernel_rfl) (by kernel_rfl) (by first | exact List.nodup_nil | exact List.nodup_singleton _ | (simp; done) | (simp; omega)) bc_nil ?walk1 ?dep1
  case' walk1 =>
    refine walkR_q (by rfl) (fun X hX wq hwq hrq => ?_) ?_
    · obtain ⟨hcq, hfq⟩ := hwq.b0
      clear hrq
      go_simp
      (first | rfl | exact ⟨rfl, rfl⟩)
    refine walkR_q (by rfl) (fun X hX wq hwq hrq => ?_) ?_
    · obtain ⟨hcq, hfq⟩ := hwq.b0
      clear hrq
      go_simp
      (first | rfl | exact ⟨rfl, rfl⟩)
    refine walkR_q (by rfl) (fun X hX wq hwq hrq => ?_) ?_
    · obtain ⟨hcq, hfq⟩ := hwq.b0
      clear hrq
      go_simp
      (first | rfl | exact ⟨rfl, rfl⟩)
    refine walkR_q (by rfl) (fun X hX wq hwq hrq => ?_) ?_
    · obtain ⟨hcq, hfq⟩ := hwq.b0
      clear hrq
      go_simp
      (first | rfl | exact ⟨rfl, rfl⟩)
    refine walkR_a (by rfl) (fun X hX wq hwq hsq => ?_) ?_
    · go_simp
      refine newB_mk ?_ ?_
      · rfl
      · rfl
    refine walkR_st (by rfl) (fun X hX wq hwq hkq => ?_) ?_
    · simp only [updC_some, updC_none, Nat.reduceEqDiff, ↓reduceIte] at hkq
      have hks := hkq.1
      have hkz := hkq.2.2
      (try have hk0 := hkq.cell 0 rfl)
      (try have hk1 := hkq.cell 1 rfl)
      (try have hk2 := hkq.cell 2 rfl)
      (try have hk3 := hkq.cell 3 rfl)
      (try have hk4 := hkq.cell 4 rfl)
      (try have hk5 := hkq.cell 5 rfl)
      (try have hk6 := hkq.cell 6 rfl)
      (try have hk7 := hkq.cell 7 rfl)
      go_simp
      (first | ((with_reducible refine writeB_mk (Cells.set hkq) ?_ ?_); (focus (repeat (first | (with_reducible exact Only.refl _ _) | (with_reducible refine Only.set ?_)))); rfl) | ((with_reducible refine writeB_mk (Cells.set (Cells.set hkq)) ?_ ?_); (focus (repeat (first | (with_reducible exact Only.refl _ _) | (with_reducible refine Only.set ?_)))); rfl) | ((with_reducible refine writeB_mk (Cells.set (Cells.set (Cells.set hkq))) ?_ ?_); (focus (repeat (first | (with_reducible exact Only.refl _ _) | (with_reducible refine Only.set ?_)))); rfl) | ((with_reducible refine writeB_mk (Cells.set (Cells.set (Cells.set (Cells.set hkq)))) ?_ ?_); (focus (repeat (first | (with_reducible exact Only.refl _ _) | (with_reducible refine Only.set ?_)))); rfl) | ((with_reducible refine writeB_mk (Cells.set (Cells.set (Cells.set (Cells.set (Cells.set hkq))))) ?_ ?_); (focus (repeat (first | (with_reducible exact Only.refl _ _) | (with_reducible refine Only.set ?_)))); rfl) | ((with_reducible refine writeB_mk (Cells.set (Cells.set (Cells.set (Cells.set (Cells.set (Cells.set hkq)))))) ?_ ?_); (focus (repeat (first | (with_reducible exact Only.refl _ _) | (with_reducible refine Only.set ?_)))); rfl) | ((with_reducible refine writeB_mk (Cells.set (Cells.set (Cells.set (Cells.set (Cells.set (Cells.set (Cells.set hkq))))))) ?_ ?_); (focus (repeat (first | (with_reducible exact Only.refl _ _) | (with_reducible refine Only.set ?_)))); rfl) | ((with_reducible refine writeB_mk (Cells.set (Cells.set (Cells.set (Cells.set (Cells.set (Cells.set (Cells.set (Cells.set hkq)))))))) ?_ ?_); (focus (repeat (first | (with_reducible exact Only.refl _ _) | (with_reducible refine Only.set ?_)))); rfl))
    refine walkR_q (by rfl) (fun X hX wq hwq hrq => ?_) ?_
    · obtain ⟨hcq, hfq⟩ := hwq.b0
      clear hrq
      go_simp
      (first | rfl | exact ⟨rfl, rfl⟩)
    refine walkR_nil (fun X hX wz hwz hcz => ?_)
    have ka4 := hcz 4 (by simp)
    simp only [updC_some, updC_none, Nat.reduceEqDiff, ↓reduceIte] at ka4
    have la4 := hX.lo 4 rfl
    clear hX hcz
    generalize X 4 = J4 at *
    (try clear X)
  case dep1 =>
    refine depR_cons (fun X X' h => ?_) ?_
    · (first | exact ⟨rfl, rfl⟩)
    refine depR_cons (fun X X' h => ?_) ?_
    · (first | exact ⟨rfl, rfl⟩)
    refine depR_cons (fun X X' h => ?_) ?_
    · (first | exact ⟨rfl, rfl⟩)
    refine depR_cons (fun X X' h => ?_) ?_
    · (first | exact ⟨rfl, rfl⟩)
    refine depR_cons (fun X X' h => ?_) ?_
    · (first | exact ⟨rfl, rfl⟩ | (have e4 := h 4 (by decide +kernel); constructor <;> (first | rfl | (simp only [e4]))))
    refine depR_cons (fun X X' h => ?_) ?_
    · (first | exact ⟨rfl, rfl⟩ | (have e4 := h 4 (by decide +kernel); constructor <;> (first | rfl | (simp only [e4]))))
    refine depR_cons (fun X X' h => ?_) ?_
    · (first | exact ⟨rfl, rfl⟩ | (have e4 := h 4 (by decide +kernel); constructor <;> (first | rfl | (simp only [e4]))))
    exact depR_nil
  have kM0 : Cells wz J4 #[.int .i64 W.rules.slice, .int .i64 W.rules.load, .int .i64 W.rules.dump, .int .i64 W.rules.patience, .int .i64 W.rules.rate, .slice aj W.jobs.length cj, .slice af W.faults.length cf].toList := ka4
  have kk3 := k3.old hwz (by simp)
  have kk5 := k5.old hwz (by simp)
  have hlz := Rd.old hl hwz (fun b hb => by simp)
  have HB3 := hid (HB2.out.trans (hwz.low (N := w.heap.size) HB2.out.size (by simp)))
  have hJ4 : w3.heap.size ≤ J4 := la4
  have hsz : w3.heap.size ≤ wz.heap.size := hwz.size
  have h7 : (day W till).1 ≠ [] → ∀ b, a7 = some b → b.block < w3.heap.size := fun h => Rd.lt hl h
  have H7 := hid h7
  clear h7
  clear k3_0 k3_1 k3_2 k3_3 k3_4 k3_5 k3_6 k3_s k5_0 k5_1 k5_2 k5_3 k5_4 k5_5 k5_6 k5_s
  have HF := hid HW.out.faults
  have HJ := hid HW.out.jobs
  obtain ⟨N, hN⟩ : ∃ N, wz.heap.size = N := ⟨_, rfl⟩
  have hN4 : J4 < N := by rw [← hN]; exact kM0.1
  have hN3 : w3.heap.size ≤ N := by omega
  have hN5 : w.heap.size + 1 < w3.heap.size := k5.1
  have hl3 := hl
  clear k3 k5 hl ka4 hwz la4
  have k3 := kk3
  have k5 := kk5
  have hl := hlz
  clear kk3 kk5 hlz
  have kM := kM0
  clear kM0
  generalize J4 = BM at *
  (refine listF_abs ?_; intro s' hs'; have gl1 := congrFun hs' 1; simp only [updS_some, updS_none, Nat.reduceEqDiff, ↓reduceIte] at gl1; (try rw [sl1] at gl1); have gl3 := congrFun hs' 3; simp only [updS_some, updS_none, Nat.reduceEqDiff, ↓reduceIte] at gl3; (try rw [sl3] at gl3); have gl5 := congrFun hs' 5; simp only [updS_some, updS_none, Nat.reduceEqDiff, ↓reduceIte] at gl5; (try rw [sl5] at gl5); have gl7 := congrFun hs' 7; simp only [updS_some, updS_none, Nat.reduceEqDiff, ↓reduceIte] at gl7; (try rw [sl7] at gl7); have gl9 := congrFun hs' 9; simp only [updS_some, updS_none, Nat.reduceEqDiff, ↓reduceIte] at gl9; (try rw [sl9] at gl9); have gl10 := congrFun hs' 10; simp only [updS_some, updS_none, Nat.reduceEqDiff, ↓reduceIte] at gl10; (try rw [sl10] at gl10); have gl11 := congrFun hs' 11; simp only [updS_some, updS_none, Nat.reduceEqDiff, ↓reduceIte] at gl11; (try rw [sl11] at gl11); clear hs'; (try clear sl1); (try clear sl3); (try clear sl5); (try clear sl7); (try clear sl9); (try clear sl10); (try clear sl11); have sl1 := gl1; clear gl1; have sl3 := gl3; clear gl3; have sl5 := gl5; clear gl5; have sl7 := gl7; clear gl7; have sl9 := gl9; clear gl9; have sl10 := gl10; clear gl10; have sl11 := gl11; clear gl11)
  refine listF_nil ?_
  with_reducible go_step
  with_reducible go_step
  refine wp_seq_k (fun K' hK' => ?_)
  refine cut_any (fun s wq => ∃ (W2 : Work) (at0 : Int) (aj2 af2 : Option Addr) (cj2 cf2 : Nat), s 1 = .int .i64 till ∧ s 3 = .pointer (some ⟨w.heap.size, 0, none⟩) ∧ s 7 = .slice a7 (day W till).1.length c7 ∧ s 9 = .int .i64 (dayErr W till) ∧ s 10 = .pointer (some ⟨BM, 0, none⟩) ∧ s 11 = .int .i64 at0 ∧
      Cells wq w.heap.size #[.int .i64 W.rules.slice, .int .i64 W.rules.load, .int .i64 W.rules.dump, .int .i64 W.rules.patience, .int .i64 W.rules.rate, .slice aj W.jobs.length cj, .slice af W.faults.length cf].toList ∧ Cells wq BM #[.int .i64 W2.rules.slice, .int .i64 W2.rules.load, .int .i64 W2.rules.dump, .int .i64 W2.rules.patience, .int .i64 W2.rules.rate, .slice aj2 W2.jobs.length cj2, .slice af2 W2.faults.length cf2].toList ∧ WorkIn wq W2 aj2 af2 ∧ Below w.heap.size w wq ∧ RdSpells wq a7 (day W till).1 ∧ Hid (LaterI W W2 till at0)) ?_ ?_
  · cases b with
    | true =>
      have k5_0 := k5.cell 0 rfl
      have k5_1 := k5.cell 1 rfl
      have k5_2 := k5.cell 2 rfl
      have k5_3 := k5.cell 3 rfl
      have k5_4 := k5.cell 4 rfl
      have k5_5 := k5.cell 5 rfl
      have k5_6 := k5.cell 6 rfl
      have k5_s := k5.1
      repeat (first | ((first | (refine listF_step rfl (fun K' hK => ?_)) | (refine listF_yes rfl rfl (by decide) ?_ (fun K' hK => ?_); (focus (go_simp; done)))); unfold opF; go_simp; (refine hK _ _ ?_); clear hK K') | (refine listF_no (b' := true) rfl rfl (by decide) ?_ ?_ ?_; (focus (go_simp; done)); (focus rfl)) | (refine listF_no (b' := false) rfl rfl (by decide) ?_ ?_ ?_; (focus (go_simp; done)); (focus rfl)) | (refine listF_nu rfl rfl (by decide) ?_ ?_; (focus (go_simp; done))) | (refine listF_nil ?_) | (refine region_F ?_) | (refine cond_F true ?_ ?_; (focus (go_simp; done)); simp only [if_true]) | (refine cond_F false ?_ ?_; (focus (go_simp; done)); simp only [Bool.false_eq_true, if_false]) | (with_reducible go_step))
      clear k5_0 k5_1 k5_2 k5_3 k5_4 k5_5 k5_6 k5_s
      refine regionI_F (fun (LJ : Nat → Bool) (sJ : Nat → Value) (wJ : World) => Cells wJ w.heap.size [.int .i64 W.rules.slice, .int .i64 W.rules.load, .int .i64 W.rules.dump, .int .i64 W.rules.patience, .int .i64 W.rules.rate, .slice aj W.jobs.length cj, .slice af W.faults.length cf] ∧ Cells wJ (w.heap.size + 1) [.string J.name, .int .i64 J.arrive, .int .i64 J.claim, .int .i64 J.needs, .int .i64 F.at0, .int .i64 F.rep, .bool true] ∧ (LJ 9 = false → Cells wJ BM [.int .i64 W.rules.slice, .int .i64 W.rules.load, .int .i64 W.rules.dump, .int .i64 W.rules.patience, .int .i64 W.rules.rate, .slice aj W.jobs.length cj, .slice af W.faults.length cf]) ∧ (LJ 9 = true → Cells wJ BM [.int .i64 W.rules.slice, .int .i64 W.rules.load, .int .i64 W.rules.dump, .int .i64 W.rules.patience, .int .i64 W.rules.rate, .slice aj W.jobs.length cj, sJ 35]) ∧ (LJ 9 = true → LJ 7 = true) ∧ (LJ 3 = true → LJ 0 = true) ∧ (LJ 7 = true → LJ 3 = true) ∧ Below w.heap.size w wJ ∧ N ≤ wJ.heap.size ∧ RdSpells wJ a7 (day W till).1 ∧ sJ 1 = .int .i64 till ∧ sJ 3 = .pointer (some ⟨w.heap.size, 0, none⟩) ∧ sJ 5 = .pointer (some ⟨w.heap.size + 1, 0, none⟩) ∧ sJ 7 = .slice a7 (day W till).1.length c7 ∧ sJ 9 = .int .i64 (dayErr W till) ∧ sJ 10 = .pointer (some ⟨BM, 0, none⟩) ∧ sJ 11 = .int .i64 J.arrive ∧ (LJ 1 = true → sJ 29 = .pointer (some ⟨w.heap.size, 6, none⟩)) ∧ (LJ 2 = true → sJ 30 = .slice af W.faults.length cf) ∧ (LJ 4 = true → sJ 32 = .pointer (some ⟨w.heap.size + 1, 4, none⟩)) ∧ (LJ 5 = true → sJ 33 = .agg #[.int .i64 F.at0, .int .i64 F.rep]) ∧ (LJ 8 = true → sJ 36 = .pointer (some ⟨BM, 6, none⟩)) ∧ (LJ 0 = true → LJ 3 = false → Own Fault.cs 2 63 N wJ (sJ 28) ([] : List Fault)) ∧ (LJ 3 = true → LJ 7 = false → Own Fault.cs 2 63 N wJ (sJ 31) W.faults) ∧ (LJ 6 = true → Own Fault.cs 2 63 N wJ (sJ 34) [F]) ∧ (LJ 7 = true → Own Fault.cs 2 63 N wJ (sJ 35) (W.faults ++ [F])) ∧ (LJ 0 = true → LJ 3 = false → LJ 6 = true → Apart (sJ 28) (sJ 34)) ∧ (LJ 3 = true → LJ 7 = false → LJ 6 = true → Apart (sJ 31) (sJ 34)) ∧ (LJ 6 = true → LJ 7 = true → Apart (sJ 34) (sJ 35))) (by kernel_rfl) (by kernel_rfl) (by kernel_rfl) ?_ ?_ ⟨?_, ?_, ?_, ?_, ?_, ?_, ?_, ?_, ?_, ?_, trivial⟩
      · refine ⟨(by repeat (first | (with_reducible exact k3) | (with_reducible refine Cells.drew ?_) | (with_reducible refine Cells.up ?_ _) | (with_reducible refine Cells.setFar ?_ (by omega)))), (by repeat (first | (with_reducible exact k5) | (with_reducible refine Cells.drew ?_) | (with_reducible refine Cells.up ?_ _) | (with_reducible refine Cells.setFar ?_ (by omega)))), fun _ => (by repeat (first | (with_reducible exact kM) | (with_reducible refine Cells.drew ?_) | (with_reducible refine Cells.up ?_ _) | (with_reducible refine Cells.setFar ?_ (by omega)))), (by simp), (by simp), (by simp), (by simp), (by repeat (first | (with_reducible exact HB3.out) | (with_reducible refine bdrewN ?_ _) | (with_reducible refine Below.drew ?_) | (with_reducible refine Below.setCell ?_ (by first | omega | (simp; done) | (simp; omega)) _) | (with_reducible refine Below.alloc ?_ (by first | omega | (simp; done) | (simp; omega)) _))), (by first | omega | (simp; done) | (simp; omega)), (hl), ?_, ?_, ?_, ?_, ?_, ?_, ?_, (by simp), (by simp), (by simp), (by simp), (by simp), (by simp), (by simp), (by simp), (by simp), (by simp), (by simp), (by simp)⟩
        · go_simp
        · go_simp
        · go_simp
        · go_simp
        · go_simp
        · go_simp
        · go_simp
      · rintro sJ wJ ⟨kB0, kB1, kB2, kC2, kO2, kQ3, kQ7, kLow, kSz, hlJ, hs1, hs3, hs5, hs7, hs9, hs10, hs11, hv1, hv2, hv4, hv5, hv8, kW0, kW3, kW6, kW7, kE0_6, kE3_6, kE6_7⟩
        replace kB2 := kC2 (by simp)
        clear kC2
        clear kO2
        clear kQ3
        clear kQ7
        replace hv1 := hv1 (by simp)
        replace hv2 := hv2 (by simp)
        replace hv4 := hv4 (by simp)
        replace hv5 := hv5 (by simp)
        replace hv8 := hv8 (by simp)
        clear kW0
        clear kW3
        replace kW6 := kW6 (by simp)
        replace kW7 := kW7 (by simp)
        clear kE0_6
        clear kE3_6
        replace kE6_7 := kE6_7 (by simp) (by simp)
        obtain ⟨a2, c2, hv2, hrd2, hfr2⟩ := Own.slice (f := Fault.cs) (m := 2) (fun _ => rfl) kW7
        rw [hv2] at kB2
        skip
        have kB1_0 := kB1.cell 0 rfl
        have kB1_1 := kB1.cell 1 rfl
        have kB1_2 := kB1.cell 2 rfl
        have kB1_3 := kB1.cell 3 rfl
        have kB1_4 := kB1.cell 4 rfl
        have kB1_5 := kB1.cell 5 rfl
        have kB1_6 := kB1.cell 6 rfl
        have kB1_s := kB1.1
        repeat (first | ((first | (refine listF_step rfl (fun K' hK => ?_)) | (refine listF_yes rfl rfl (by decide) ?_ (fun K' hK => ?_); (focus (go_simp; done)))); unfold opF; go_simp; (refine hK _ _ ?_); clear hK K') | (refine listF_no (b' := true) rfl rfl (by decide) ?_ ?_ ?_; (focus (go_simp; done)); (focus rfl)) | (refine listF_no (b' := false) rfl rfl (by decide) ?_ ?_ ?_; (focus (go_simp; done)); (focus rfl)) | (refine listF_nu rfl rfl (by decide) ?_ ?_; (focus (go_simp; done))) | (refine listF_nil ?_) | (refine region_F ?_) | (refine cond_F true ?_ ?_; (focus (go_simp; done)); simp only [if_true]) | (refine cond_F false ?_ ?_; (focus (go_simp; done)); simp only [Bool.false_eq_true, if_false]) | (with_reducible go_step))
        exact ⟨rfl, _, rfl, withFault W F, F.at0, aj, a2, cj, c2, by go_simp, by go_simp, by go_simp, by go_simp, by go_simp, by go_simp, kB0, kB2, ⟨Rd.at HJ.out kLow, hrd2, HW.out.jl, by show (W.faults ++ [F]).length ≤ _; simp; omega, HW.out.nm⟩, kLow, hlJ, hid (fun h1 h2 => later_fault h1 h2)⟩
      · rintro LJ sJ wJ hL hd ⟨kB0, kB1, kB2, kC2, kO2, kQ3, kQ7, kLow, kSz, hlJ, hs1, hs3, hs5, hs7, hs9, hs10, hs11, hv1, hv2, hv4, hv5, hv8, kW0, kW3, kW6, kW7, kE0_6, kE3_6, kE6_7⟩ K hK
        clear hd
        rw [if_pos (by rfl)]
        unfold opF
        go_simp
        exact hK _ _ ⟨(Cells.up (kB0) _), (Cells.up (kB1) _), (fun h => by have h := (by simpa [upd] using h : LJ 9 = false); exact Cells.up (kB2 h) _), (fun h => by have h := (by simpa [upd] using h : LJ 9 = true); refine Cells.up ?_ _; simpa [updS] using kC2 h), (by simpa [upd] using kO2), (by simp [upd]), (by simpa [upd] using kQ7), (kLow.alloc (by omega) _), (by first | omega | (simp; done) | (simp; omega) | (have := hG.size; omega)), (Rd.at hlJ ((Below.refl _ _).alloc (Nat.le_refl _) _)), (by simpa [upd, updS] using hs1), (by simpa [upd, updS] using hs3), (by simpa [upd, updS] using hs5), (by simpa [upd, updS] using hs7), (by simpa [upd, updS] using hs9), (by simpa [upd, updS] using hs10), (by simpa [upd, updS] using hs11), (by simpa [upd, updS] using hv1), (by simpa [upd, updS] using hv2), (by simpa [upd, updS] using hv4), (by simpa [upd, updS] using hv5), (by simpa [upd, updS] using hv8), (fun _ _ => by first | exact Own.lit (by omega) (by unfold maxLen; simp) (by rfl) (fun _ => rfl) | (simp only [updS_some, ↓reduceIte]; exact Own.lit (by omega) (by unfold maxLen; simp) (by rfl) (fun _ => rfl))), (fun h h' => by have h1 := (by simpa [upd] using h : LJ 3 = true); have h2 := (by simpa [upd] using h' : LJ 7 = false); simpa [updS] using Own.alloc (kW3 h1 h2) _), (fun h => by have h1 := (by simpa [upd] using h : LJ 6 = true); simpa [updS] using Own.alloc (kW6 h1) _), (fun h => by have h1 := (by simpa [upd] using h : LJ 7 = true); simpa [updS] using Own.alloc (kW7 h1) _), (fun h1 h2 h3 => by have h2 := (by simpa [upd] using h2 : LJ 3 = false); have h3 := (by simpa [upd] using h3 : LJ 6 = true); simpa [updS] using (Apart.new (kW6 h3) _ _).symm), (fun h1 h2 h3 => by have h1 := (by simpa [upd] using h1 : LJ 3 = true); have h2 := (by simpa [upd] using h2 : LJ 7 = false); have h3 := (by simpa [upd] using h3 : LJ 6 = true); simpa [updS] using kE3_6 h1 h2 h3), (fun h1 h3 => by have h1 := (by simpa [upd] using h1 : LJ 6 = true); have h3 := (by simpa [upd] using h3 : LJ 7 = true); simpa [updS] using kE6_7 h1 h3)⟩
      · rintro LJ sJ wJ hL hd ⟨kB0, kB1, kB2, kC2, kO2, kQ3, kQ7, kLow, kSz, hlJ, hs1, hs3, hs5, hs7, hs9, hs10, hs11, hv1, hv2, hv4, hv5, hv8, kW0, kW3, kW6, kW7, kE0_6, kE3_6, kE6_7⟩ K hK
        clear hd
        rw [if_pos (by rfl)]
        unfold opF
        go_simp
        exact hK _ _ ⟨(kB0), (kB1), (fun h => by have h := (by simpa [upd] using h : LJ 9 = false); exact kB2 h), (fun h => by have h := (by simpa [upd] using h : LJ 9 = true); simpa [updS] using kC2 h), (by simpa [upd] using kO2), (by simpa [upd] using kQ3), (by simpa [upd] using kQ7), kLow, (by first | omega | (simp; done) | (simp; omega) | (have := hG.size; omega)), (hlJ), (by simpa [upd, updS] using hs1), (by simpa [upd, updS] using hs3), (by simpa [upd, updS] using hs5), (by simpa [upd, updS] using hs7), (by simpa [upd, updS] using hs9), (by simpa [upd, updS] using hs10), (by simpa [upd, updS] using hs11), (by simp [upd, updS]), (by simpa [upd, updS] using hv2), (by simpa [upd, updS] using hv4), (by simpa [upd, updS] using hv5), (by simpa [upd, updS] using hv8), (fun h h' => by have h1 := (by simpa [upd] using h : LJ 0 = true); have h2 := (by simpa [upd] using h' : LJ 3 = false); simpa [updS] using (kW0 h1 h2)), (fun h h' => by have h1 := (by simpa [upd] using h : LJ 3 = true); have h2 := (by simpa [upd] using h' : LJ 7 = false); simpa [updS] using (kW3 h1 h2)), (fun h => by have h1 := (by simpa [upd] using h : LJ 6 = true); simpa [updS] using (kW6 h1)), (fun h => by have h1 := (by simpa [upd] using h : LJ 7 = true); simpa [updS] using (kW7 h1)), (fun h1 h2 h3 => by have h1 := (by simpa [upd] using h1 : LJ 0 = true); have h2 := (by simpa [upd] using h2 : LJ 3 = false); have h3 := (by simpa [upd] using h3 : LJ 6 = true); simpa [updS] using kE0_6 h1 h2 h3), (fun h1 h2 h3 => by have h1 := (by simpa [upd] using h1 : LJ 3 = true); have h2 := (by simpa [upd] using h2 : LJ 7 = false); have h3 := (by simpa [upd] using h3 : LJ 6 = true); simpa [updS] using kE3_6 h1 h2 h3), (fun h1 h3 => by have h1 := (by simpa [upd] using h1 : LJ 6 = true); have h3 := (by simpa [upd] using h3 : LJ 7 = true); simpa [updS] using kE6_7 h1 h3)⟩
      · rintro LJ sJ wJ hL hd ⟨kB0, kB1, kB2, kC2, kO2, kQ3, kQ7, kLow, kSz, hlJ, hs1, hs3, hs5, hs7, hs9, hs10, hs11, hv1, hv2, hv4, hv5, hv8, kW0, kW3, kW6, kW7, kE0_6, kE3_6, kE6_7⟩ K hK
        have ga1 := hd ⟨1, .data⟩ (by simp) rfl
        have gv1 := hv1 ga1
        clear hd
        rw [if_pos (by rfl)]
        unfold opF
        have cc0_0 := kB0.cell 0 rfl
        have cc0_1 := kB0.cell 1 rfl
        have cc0_2 := kB0.cell 2 rfl
        have cc0_3 := kB0.cell 3 rfl
        have cc0_4 := kB0.cell 4 rfl
        have cc0_5 := kB0.cell 5 rfl
        have cc0_6 := kB0.cell 6 rfl
        have ccs0 := kB0.1
        go_simp
        exact hK _ _ ⟨(kB0), (kB1), (fun h => by have h := (by simpa [upd] using h : LJ 9 = false); exact kB2 h), (fun h => by have h := (by simpa [upd] using h : LJ 9 = true); simpa [updS] using kC2 h), (by simpa [upd] using kO2), (by simpa [upd] using kQ3), (by simpa [upd] using kQ7), kLow, (by first | omega | (simp; done) | (simp; omega) | (have := hG.size; omega)), (hlJ), (by simpa [upd, updS] using hs1), (by simpa [upd, updS] using hs3), (by simpa [upd, updS] using hs5), (by simpa [upd, updS] using hs7), (by simpa [upd, updS] using hs9), (by simpa [upd, updS] using hs10), (by simpa [upd, updS] using hs11), (by simpa [upd, updS] using hv1), (by simp [upd, updS]), (by simpa [upd, updS] using hv4), (by simpa [upd, updS] using hv5), (by simpa [upd, updS] using hv8), (fun h h' => by have h1 := (by simpa [upd] using h : LJ 0 = true); have h2 := (by simpa [upd] using h' : LJ 3 = false); simpa [updS] using (kW0 h1 h2)), (fun h h' => by have h1 := (by simpa [upd] using h : LJ 3 = true); have h2 := (by simpa [upd] using h' : LJ 7 = false); simpa [updS] using (kW3 h1 h2)), (fun h => by have h1 := (by simpa [upd] using h : LJ 6 = true); simpa [updS] using (kW6 h1)), (fun h => by have h1 := (by simpa [upd] using h : LJ 7 = true); simpa [updS] using (kW7 h1)), (fun h1 h2 h3 => by have h1 := (by simpa [upd] using h1 : LJ 0 = true); have h2 := (by simpa [upd] using h2 : LJ 3 = false); have h3 := (by simpa [upd] using h3 : LJ 6 = true); simpa [updS] using kE0_6 h1 h2 h3), (fun h1 h2 h3 => by have h1 := (by simpa [upd] using h1 : LJ 3 = true); have h2 := (by simpa [upd] using h2 : LJ 7 = false); have h3 := (by simpa [upd] using h3 : LJ 6 = true); simpa [updS] using kE3_6 h1 h2 h3), (fun h1 h3 => by have h1 := (by simpa [upd] using h1 : LJ 6 = true); have h3 := (by simpa [upd] using h3 : LJ 7 = true); simpa [updS] using kE6_7 h1 h3)⟩
      · rintro LJ sJ wJ hL hd ⟨kB0, kB1, kB2, kC2, kO2, kQ3, kQ7, kLow, kSz, hlJ, hs1, hs3, hs5, hs7, hs9, hs10, hs11, hv1, hv2, hv4, hv5, hv8, kW0, kW3, kW6, kW7, kE0_6, kE3_6, kE6_7⟩ K hK
        have ga0 := hd ⟨0, .data⟩ (by simp) rfl
        have ga2 := hd ⟨2, .data⟩ (by simp) rfl
        have gv2 := hv2 ga2
        clear hd
        rw [if_pos (by rfl)]
        have hcj : LJ 3 = false := hL
        have kWx := kW0 ga0 hcj
        refine opF_app (d := 31) rfl (by decide) (.tmp 28) (.tmp 30) _ rfl 63 i0 _ 16 Try.underlying25 hi0 hz0 hz1 hz2 rfl (by decide) (fun _ => rfl) fault_one N (sJ 28) ([] : List Fault) W.faults af cf (by go_simp) (by go_simp) kWx (Rd.at HF.out kLow) (by simp; unfold maxLen; omega) (by simp; omega) (by omega) (fun v' w' hO hG hV => ?_)
        exact hK _ _ ⟨(Cells.grown (kB0) hG (Own.far kWx (by omega))), (Cells.grown (kB1) hG (Own.far kWx (by omega))), (fun h => by have h := (by simpa [upd] using h : LJ 9 = false); exact Cells.grown (kB2 h) hG (Own.far kWx (by omega))), (fun h => by have h := (by simpa [upd] using h : LJ 9 = true); refine Cells.grown ?_ hG (Own.far kWx (by omega)); simpa [updS] using kC2 h), (by simpa [upd] using kO2), (by simp [upd]; exact ga0), (by simp [upd]), (low_grown kLow hG (by omega) (fun k hk => by have := (World.ownsRow.lt kWx k hk).1; omega)), (by first | omega | (simp; done) | (simp; omega) | (have := hG.size; omega)), (Rd.grown hlJ hG (fun h b hb => Own.far kWx (by have := H7.out h b hb; omega))), (by simpa [upd, updS] using hs1), (by simpa [upd, updS] using hs3), (by simpa [upd, updS] using hs5), (by simpa [upd, updS] using hs7), (by simpa [upd, updS] using hs9), (by simpa [upd, updS] using hs10), (by simpa [upd, updS] using hs11), (by simpa [upd, updS] using hv1), (by simpa [upd, updS] using hv2), (by simpa [upd, updS] using hv4), (by simpa [upd, updS] using hv5), (by simpa [upd, updS] using hv8), (fun _ h => by simp [upd] at h), (fun _ _ => by first | exact hO | (simp only [updS_some, ↓reduceIte]; exact hO)), (fun h => by have h1 := (by simpa [upd] using h : LJ 6 = true); simpa [updS] using Own.grown (kW6 h1) hG (kE0_6 ga0 hcj h1).symm), (fun h => by have h1 := (by simpa [upd] using h : LJ 7 = true); exact absurd (kQ7 h1) (by rw [hL]; decide)), (fun h1 h2 h3 => by simp [upd] at h2), (fun h1 h2 h3 => by have h2 := (by simpa [upd] using h2 : LJ 7 = false); have h3 := (by simpa [upd] using h3 : LJ 6 = true); simpa [updS] using (Apart.app (kW6 h3) (kE0_6 ga0 hcj h3).symm hV).symm), (fun h1 h3 => by have h1 := (by simpa [upd] using h1 : LJ 6 = true); have h3 := (by simpa [upd] using h3 : LJ 7 = true); simpa [updS] using kE6_7 h1 h3)⟩
      · rintro LJ sJ wJ hL hd ⟨kB0, kB1, kB2, kC2, kO2, kQ3, kQ7, kLow, kSz, hlJ, hs1, hs3, hs5, hs7, hs9, hs10, hs11, hv1, hv2, hv4, hv5, hv8, kW0, kW3, kW6, kW7, kE0_6, kE3_6, kE6_7⟩ K hK
        clear hd
        rw [if_pos (by rfl)]
        unfold opF
        go_simp
        exact hK _ _ ⟨(kB0), (kB1), (fun h => by have h := (by simpa [upd] using h : LJ 9 = false); exact kB2 h), (fun h => by have h := (by simpa [upd] using h : LJ 9 = true); simpa [updS] using kC2 h), (by simpa [upd] using kO2), (by simpa [upd] using kQ3), (by simpa [upd] using kQ7), kLow, (by first | omega | (simp; done) | (simp; omega) | (have := hG.size; omega)), (hlJ), (by simpa [upd, updS] using hs1), (by simpa [upd, updS] using hs3), (by simpa [upd, updS] using hs5), (by simpa [upd, updS] using hs7), (by simpa [upd, updS] using hs9), (by simpa [upd, updS] using hs10), (by simpa [upd, updS] using hs11), (by simpa [upd, updS] using hv1), (by simpa [upd, updS] using hv2), (by simp [upd, updS]), (by simpa [upd, updS] using hv5), (by simpa [upd, updS] using hv8), (fun h h' => by have h1 := (by simpa [upd] using h : LJ 0 = true); have h2 := (by simpa [upd] using h' : LJ 3 = false); simpa [updS] using (kW0 h1 h2)), (fun h h' => by have h1 := (by simpa [upd] using h : LJ 3 = true); have h2 := (by simpa [upd] using h' : LJ 7 = false); simpa [updS] using (kW3 h1 h2)), (fun h => by have h1 := (by simpa [upd] using h : LJ 6 = true); simpa [updS] using (kW6 h1)), (fun h => by have h1 := (by simpa [upd] using h : LJ 7 = true); simpa [updS] using (kW7 h1)), (fun h1 h2 h3 => by have h1 := (by simpa [upd] using h1 : LJ 0 = true); have h2 := (by simpa [upd] using h2 : LJ 3 = false); have h3 := (by simpa [upd] using h3 : LJ 6 = true); simpa [updS] using kE0_6 h1 h2 h3), (fun h1 h2 h3 => by have h1 := (by simpa [upd] using h1 : LJ 3 = true); have h2 := (by simpa [upd] using h2 : LJ 7 = false); have h3 := (by simpa [upd] using h3 : LJ 6 = true); simpa [updS] using kE3_6 h1 h2 h3), (fun h1 h3 => by have h1 := (by simpa [upd] using h1 : LJ 6 = true); have h3 := (by simpa [upd] using h3 : LJ 7 = true); simpa [updS] using kE6_7 h1 h3)⟩
      · rintro LJ sJ wJ hL hd ⟨kB0, kB1, kB2, kC2, kO2, kQ3, kQ7, kLow, kSz, hlJ, hs1, hs3, hs5, hs7, hs9, hs10, hs11, hv1, hv2, hv4, hv5, hv8, kW0, kW3, kW6, kW7, kE0_6, kE3_6, kE6_7⟩ K hK
        have ga4 := hd ⟨4, .data⟩ (by simp) rfl
        have gv4 := hv4 ga4
        clear hd
        rw [if_pos (by rfl)]
        unfold opF
        have cc1_0 := kB1.cell 0 rfl
        have cc1_1 := kB1.cell 1 rfl
        have cc1_2 := kB1.cell 2 rfl
        have cc1_3 := kB1.cell 3 rfl
        have cc1_4 := kB1.cell 4 rfl
        have cc1_5 := kB1.cell 5 rfl
        have cc1_6 := kB1.cell 6 rfl
        have ccs1 := kB1.1
        go_simp
        exact hK _ _ ⟨(kB0), (kB1), (fun h => by have h := (by simpa [upd] using h : LJ 9 = false); exact kB2 h), (fun h => by have h := (by simpa [upd] using h : LJ 9 = true); simpa [updS] using kC2 h), (by simpa [upd] using kO2), (by simpa [upd] using kQ3), (by simpa [upd] using kQ7), kLow, (by first | omega | (simp; done) | (simp; omega) | (have := hG.size; omega)), (hlJ), (by simpa [upd, updS] using hs1), (by simpa [upd, updS] using hs3), (by simpa [upd, updS] using hs5), (by simpa [upd, updS] using hs7), (by simpa [upd, updS] using hs9), (by simpa [upd, updS] using hs10), (by simpa [upd, updS] using hs11), (by simpa [upd, updS] using hv1), (by simpa [upd, updS] using hv2), (by simpa [upd, updS] using hv4), (by simp [upd, updS]), (by simpa [upd, updS] using hv8), (fun h h' => by have h1 := (by simpa [upd] using h : LJ 0 = true); have h2 := (by simpa [upd] using h' : LJ 3 = false); simpa [updS] using (kW0 h1 h2)), (fun h h' => by have h1 := (by simpa [upd] using h : LJ 3 = true); have h2 := (by simpa [upd] using h' : LJ 7 = false); simpa [updS] using (kW3 h1 h2)), (fun h => by have h1 := (by simpa [upd] using h : LJ 6 = true); simpa [updS] using (kW6 h1)), (fun h => by have h1 := (by simpa [upd] using h : LJ 7 = true); simpa [updS] using (kW7 h1)), (fun h1 h2 h3 => by have h1 := (by simpa [upd] using h1 : LJ 0 = true); have h2 := (by simpa [upd] using h2 : LJ 3 = false); have h3 := (by simpa [upd] using h3 : LJ 6 = true); simpa [updS] using kE0_6 h1 h2 h3), (fun h1 h2 h3 => by have h1 := (by simpa [upd] using h1 : LJ 3 = true); have h2 := (by simpa [upd] using h2 : LJ 7 = false); have h3 := (by simpa [upd] using h3 : LJ 6 = true); simpa [updS] using kE3_6 h1 h2 h3), (fun h1 h3 => by have h1 := (by simpa [upd] using h1 : LJ 6 = true); have h3 := (by simpa [upd] using h3 : LJ 7 = true); simpa [updS] using kE6_7 h1 h3)⟩
      · rintro LJ sJ wJ hL hd ⟨kB0, kB1, kB2, kC2, kO2, kQ3, kQ7, kLow, kSz, hlJ, hs1, hs3, hs5, hs7, hs9, hs10, hs11, hv1, hv2, hv4, hv5, hv8, kW0, kW3, kW6, kW7, kE0_6, kE3_6, kE6_7⟩ K hK
        have ga5 := hd ⟨5, .data⟩ (by simp) rfl
        have gv5 := hv5 ga5
        clear hd
        rw [if_pos (by rfl)]
        unfold opF
        go_simp
        exact hK _ _ ⟨(Cells.up (kB0) _), (Cells.up (kB1) _), (fun h => by have h := (by simpa [upd] using h : LJ 9 = false); exact Cells.up (kB2 h) _), (fun h => by have h := (by simpa [upd] using h : LJ 9 = true); refine Cells.up ?_ _; simpa [updS] using kC2 h), (by simpa [upd] using kO2), (by simpa [upd] using kQ3), (by simpa [upd] using kQ7), (kLow.alloc (by omega) _), (by first | omega | (simp; done) | (simp; omega) | (have := hG.size; omega)), (Rd.at hlJ ((Below.refl _ _).alloc (Nat.le_refl _) _)), (by simpa [upd, updS] using hs1), (by simpa [upd, updS] using hs3), (by simpa [upd, updS] using hs5), (by simpa [upd, updS] using hs7), (by simpa [upd, updS] using hs9), (by simpa [upd, updS] using hs10), (by simpa [upd, updS] using hs11), (by simpa [upd, updS] using hv1), (by simpa [upd, updS] using hv2), (by simpa [upd, updS] using hv4), (by simpa [upd, updS] using hv5), (by simpa [upd, updS] using hv8), (fun h h' => by have h1 := (by simpa [upd] using h : LJ 0 = true); have h2 := (by simpa [upd] using h' : LJ 3 = false); simpa [updS] using Own.alloc (kW0 h1 h2) _), (fun h h' => by have h1 := (by simpa [upd] using h : LJ 3 = true); have h2 := (by simpa [upd] using h' : LJ 7 = false); simpa [updS] using Own.alloc (kW3 h1 h2) _), (fun _ => by first | exact Own.lit (by omega) (by unfold maxLen; simp) (by rfl) (fun _ => rfl) | (simp only [updS_some, ↓reduceIte]; exact Own.lit (by omega) (by unfold maxLen; simp) (by rfl) (fun _ => rfl))), (fun h => by have h1 := (by simpa [upd] using h : LJ 7 = true); simpa [updS] using Own.alloc (kW7 h1) _), (fun h1 h2 h3 => by have h1 := (by simpa [upd] using h1 : LJ 0 = true); have h2 := (by simpa [upd] using h2 : LJ 3 = false); simpa [updS] using Apart.new (kW0 h1 h2) _ _), (fun h1 h2 h3 => by have h1 := (by simpa [upd] using h1 : LJ 3 = true); have h2 := (by simpa [upd] using h2 : LJ 7 = false); simpa [updS] using Apart.new (kW3 h1 h2) _ _), (fun h1 h3 => by have h3 := (by simpa [upd] using h3 : LJ 7 = true); simpa [updS] using (Apart.new (kW7 h3) _ _).symm)⟩
      · rintro LJ sJ wJ hL hd ⟨kB0, kB1, kB2, kC2, kO2, kQ3, kQ7, kLow, kSz, hlJ, hs1, hs3, hs5, hs7, hs9, hs10, hs11, hv1, hv2, hv4, hv5, hv8, kW0, kW3, kW6, kW7, kE0_6, kE3_6, kE6_7⟩ K hK
        have ga3 := hd ⟨3, .data⟩ (by simp) rfl
        have ga6 := hd ⟨6, .data⟩ (by simp) rfl
        have ga3 := hd ⟨3, .chain⟩ (by simp) rfl
        clear hd
        rw [if_pos (by rfl)]
        have hcj : LJ 7 = false := hL
        have kWx := kW3 ga3 hcj
        have kWy := kW6 ga6
        obtain ⟨ay, cy, hvy, hry, hny⟩ := Own.slice (f := Fault.cs) (m := 2) (fun _ => rfl) kWy
        refine opF_app (d := 35) rfl (by decide) (.tmp 31) (.tmp 34) _ rfl 63 i0 _ 16 Try.underlying25 hi0 hz0 hz1 hz2 rfl (by decide) (fun _ => rfl) fault_one N (sJ 31) W.faults [F] ay cy (by go_simp) (by simpa using hvy) kWx hry (by simp; unfold maxLen; omega) (by simp; omega) (by omega) (fun v' w' hO hG hV => ?_)
        exact hK _ _ ⟨(Cells.grown (kB0) hG (Own.far kWx (by omega))), (Cells.grown (kB1) hG (Own.far kWx (by omega))), (fun h => by have h := (by simpa [upd] using h : LJ 9 = false); exact Cells.grown (kB2 h) hG (Own.far kWx (by omega))), (fun h => by have h := (by simpa [upd] using h : LJ 9 = true); exact absurd (kO2 h) (by rw [hL]; decide)), (by simp [upd]), (by simpa [upd] using kQ3), (by simp [upd]; exact ga3), (low_grown kLow hG (by omega) (fun k hk => by have := (World.ownsRow.lt kWx k hk).1; omega)), (by first | omega | (simp; done) | (simp; omega) | (have := hG.size; omega)), (Rd.grown hlJ hG (fun h b hb => Own.far kWx (by have := H7.out h b hb; omega))), (by simpa [upd, updS] using hs1), (by simpa [upd, updS] using hs3), (by simpa [upd, updS] using hs5), (by simpa [upd, updS] using hs7), (by simpa [upd, updS] using hs9), (by simpa [upd, updS] using hs10), (by simpa [upd, updS] using hs11), (by simpa [upd, updS] using hv1), (by simpa [upd, updS] using hv2), (by simpa [upd, updS] using hv4), (by simpa [upd, updS] using hv5), (by simpa [upd, updS] using hv8), (fun h h' => by have h2 := (by simpa [upd] using h' : LJ 3 = false); exact absurd ga3 (by rw [h2]; decide)), (fun _ h => by simp [upd] at h), (fun h => by have h1 := (by simpa [upd] using h : LJ 6 = true); simpa [updS] using Own.grown (kW6 h1) hG (kE3_6 ga3 hcj h1).symm), (fun _ => by first | exact hO | (simp only [updS_some, ↓reduceIte]; exact hO)), (fun h1 h2 h3 => by have h1 := (by simpa [upd] using h1 : LJ 0 = true); have h2 := (by simpa [upd] using h2 : LJ 3 = false); have h3 := (by simpa [upd] using h3 : LJ 6 = true); simpa [updS] using kE0_6 h1 h2 h3), (fun h1 h2 h3 => by simp [upd] at h2), (fun h1 h3 => by have h1 := (by simpa [upd] using h1 : LJ 6 = true); simpa [updS] using Apart.app (kW6 h1) (kE3_6 ga3 hcj h1).symm hV)⟩
      · rintro LJ sJ wJ hL hd ⟨kB0, kB1, kB2, kC2, kO2, kQ3, kQ7, kLow, kSz, hlJ, hs1, hs3, hs5, hs7, hs9, hs10, hs11, hv1, hv2, hv4, hv5, hv8, kW0, kW3, kW6, kW7, kE0_6, kE3_6, kE6_7⟩ K hK
        have ga0 := hd ⟨0, .phase⟩ (by simp) rfl
        have ga1 := hd ⟨1, .phase⟩ (by simp) rfl
        have gv1 := hv1 ga1
        have ga2 := hd ⟨2, .phase⟩ (by simp) rfl
        have gv2 := hv2 ga2
        have ga3 := hd ⟨3, .phase⟩ (by simp) rfl
        have ga4 := hd ⟨4, .phase⟩ (by simp) rfl
        have gv4 := hv4 ga4
        have ga5 := hd ⟨5, .phase⟩ (by simp) rfl
        have gv5 := hv5 ga5
        have ga6 := hd ⟨6, .phase⟩ (by simp) rfl
        have ga7 := hd ⟨7, .phase⟩ (by simp) rfl
        clear hd
        rw [if_pos (by rfl)]
        unfold opF
        go_simp
        exact hK _ _ ⟨(kB0), (kB1), (fun h => by have h := (by simpa [upd] using h : LJ 9 = false); exact kB2 h), (fun h => by have h := (by simpa [upd] using h : LJ 9 = true); simpa [updS] using kC2 h), (by simpa [upd] using kO2), (by simpa [upd] using kQ3), (by simpa [upd] using kQ7), kLow, (by first | omega | (simp; done) | (simp; omega) | (have := hG.size; omega)), (hlJ), (by simpa [upd, updS] using hs1), (by simpa [upd, updS] using hs3), (by simpa [upd, updS] using hs5), (by simpa [upd, updS] using hs7), (by simpa [upd, updS] using hs9), (by simpa [upd, updS] using hs10), (by simpa [upd, updS] using hs11), (by simpa [upd, updS] using hv1), (by simpa [upd, updS] using hv2), (by simpa [upd, updS] using hv4), (by simpa [upd, updS] using hv5), (by simp [upd, updS]), (fun h h' => by have h1 := (by simpa [upd] using h : LJ 0 = true); have h2 := (by simpa [upd] using h' : LJ 3 = false); simpa [updS] using (kW0 h1 h2)), (fun h h' => by have h1 := (by simpa [upd] using h : LJ 3 = true); have h2 := (by simpa [upd] using h' : LJ 7 = false); simpa [updS] using (kW3 h1 h2)), (fun h => by have h1 := (by simpa [upd] using h : LJ 6 = true); simpa [updS] using (kW6 h1)), (fun h => by have h1 := (by simpa [upd] using h : LJ 7 = true); simpa [updS] using (kW7 h1)), (fun h1 h2 h3 => by have h1 := (by simpa [upd] using h1 : LJ 0 = true); have h2 := (by simpa [upd] using h2 : LJ 3 = false); have h3 := (by simpa [upd] using h3 : LJ 6 = true); simpa [updS] using kE0_6 h1 h2 h3), (fun h1 h2 h3 => by have h1 := (by simpa [upd] using h1 : LJ 3 = true); have h2 := (by simpa [upd] using h2 : LJ 7 = false); have h3 := (by simpa [upd] using h3 : LJ 6 = true); simpa [updS] using kE3_6 h1 h2 h3), (fun h1 h3 => by have h1 := (by simpa [upd] using h1 : LJ 6 = true); have h3 := (by simpa [upd] using h3 : LJ 7 = true); simpa [updS] using kE6_7 h1 h3)⟩
      · rintro LJ sJ wJ hL hd ⟨kB0, kB1, kB2, kC2, kO2, kQ3, kQ7, kLow, kSz, hlJ, hs1, hs3, hs5, hs7, hs9, hs10, hs11, hv1, hv2, hv4, hv5, hv8, kW0, kW3, kW6, kW7, kE0_6, kE3_6, kE6_7⟩ K hK
        have ga8 := hd ⟨8, .data⟩ (by simp) rfl
        have gv8 := hv8 ga8
        have ga7 := hd ⟨7, .data⟩ (by simp) rfl
        have ga7 := hd ⟨7, .chain⟩ (by simp) rfl
        have ga0 := hd ⟨0, .phase⟩ (by simp) rfl
        have ga1 := hd ⟨1, .phase⟩ (by simp) rfl
        have gv1 := hv1 ga1
        have ga2 := hd ⟨2, .phase⟩ (by simp) rfl
        have gv2 := hv2 ga2
        have ga3 := hd ⟨3, .phase⟩ (by simp) rfl
        have ga4 := hd ⟨4, .phase⟩ (by simp) rfl
        have gv4 := hv4 ga4
        have ga5 := hd ⟨5, .phase⟩ (by simp) rfl
        have gv5 := hv5 ga5
        have ga6 := hd ⟨6, .phase⟩ (by simp) rfl
        have ga7 := hd ⟨7, .phase⟩ (by simp) rfl
        clear hd
        rw [if_pos (by rfl)]
        have kWs := kW7 (by first | assumption | exact ga7)
        obtain ⟨ay, cy, hvy, _, _⟩ := Own.slice (f := Fault.cs) (m := 2) (fun _ => rfl) kWs
        have kN2 := kB2 hL
        have cc2_0 := kN2.cell 0 rfl
        have cc2_1 := kN2.cell 1 rfl
        have cc2_2 := kN2.cell 2 rfl
        have cc2_3 := kN2.cell 3 rfl
        have cc2_4 := kN2.cell 4 rfl
        have cc2_5 := kN2.cell 5 rfl
        have cc2_6 := kN2.cell 6 rfl
        have ccs := kN2.1
        have ccz := kN2.2.2
        have Hvy := hid hvy
        unfold opF
        go_simp
        exact hK undef _ ⟨(Cells.setFar (kB0) (by omega)), (Cells.setFar (kB1) (by omega)), (by simp [upd]), (fun _ => by show Cells _ BM [.int .i64 W.rules.slice, .int .i64 W.rules.load, .int .i64 W.rules.dump, .int .i64 W.rules.patience, .int .i64 W.rules.rate, .slice aj W.jobs.length cj, sJ 35]; rw [Hvy.out]; have hz := kN2.set (i := 6) (u := Value.slice ay ((W.faults ++ [F])).length cy); simpa using hz), (by simp [upd]; exact ga7), (by simpa [upd] using kQ3), (by simpa [upd] using kQ7), (kLow.setCell (by first | omega | (simp; omega)) _), (by first | omega | (simp; done) | (simp; omega) | (have := hG.size; omega)), (Rd.far hlJ (fun h b hb => by have := H7.out h b hb; omega)), (by simpa [upd, updS] using hs1), (by simpa [upd, updS] using hs3), (by simpa [upd, updS] using hs5), (by simpa [upd, updS] using hs7), (by simpa [upd, updS] using hs9), (by simpa [upd, updS] using hs10), (by simpa [upd, updS] using hs11), (by simpa [upd, updS] using hv1), (by simpa [upd, updS] using hv2), (by simpa [upd, updS] using hv4), (by simpa [upd, updS] using hv5), (by simpa [upd, updS] using hv8), (fun h h' => by have h1 := (by simpa [upd] using h : LJ 0 = true); have h2 := (by simpa [upd] using h' : LJ 3 = false); simpa [updS] using Own.setFar' (kW0 h1 h2) (by omega) _), (fun h h' => by have h1 := (by simpa [upd] using h : LJ 3 = true); have h2 := (by simpa [upd] using h' : LJ 7 = false); simpa [updS] using Own.setFar' (kW3 h1 h2) (by omega) _), (fun h => by have h1 := (by simpa [upd] using h : LJ 6 = true); simpa [updS] using Own.setFar' (kW6 h1) (by omega) _), (fun h => by have h1 := (by simpa [upd] using h : LJ 7 = true); simpa [updS] using Own.setFar' (kW7 h1) (by omega) _), (fun h1 h2 h3 => by have h1 := (by simpa [upd] using h1 : LJ 0 = true); have h2 := (by simpa [upd] using h2 : LJ 3 = false); have h3 := (by simpa [upd] using h3 : LJ 6 = true); simpa [updS] using kE0_6 h1 h2 h3), (fun h1 h2 h3 => by have h1 := (by simpa [upd] using h1 : LJ 3 = true); have h2 := (by simpa [upd] using h2 : LJ 7 = false); have h3 := (by simpa [upd] using h3 : LJ 6 = true); simpa [updS] using kE3_6 h1 h2 h3), (fun h1 h3 => by have h1 := (by simpa [upd] using h1 : LJ 6 = true); have h3 := (by simpa [upd] using h3 : LJ 7 = true); simpa [updS] using kE6_7 h1 h3)⟩
    | false =>
      have k5_0 := k5.cell 0 rfl
      have k5_1 := k5.cell 1 rfl
      have k5_2 := k5.cell 2 rfl
      have k5_3 := k5.cell 3 rfl
      have k5_4 := k5.cell 4 rfl
      have k5_5 := k5.cell 5 rfl
      have k5_6 := k5.cell 6 rfl
      have k5_s := k5.1
      repeat (first | ((first | (refine listF_step rfl (fun K' hK => ?_)) | (refine listF_yes rfl rfl (by decide) ?_ (fun K' hK => ?_); (focus (go_simp; done)))); unfold opF; go_simp; (refine hK _ _ ?_); clear hK K') | (refine listF_no (b' := true) rfl rfl (by decide) ?_ ?_ ?_; (focus (go_simp; done)); (focus rfl)) | (refine listF_no (b' := false) rfl rfl (by decide) ?_ ?_ ?_; (focus (go_simp; done)); (focus rfl)) | (refine listF_nu rfl rfl (by decide) ?_ ?_; (focus (go_simp; done))) | (refine listF_nil ?_) | (refine region_F ?_) | (refine cond_F true ?_ ?_; (focus (go_simp; done)); simp only [if_true]) | (refine cond_F false ?_ ?_; (focus (go_simp; done)); simp only [Bool.false_eq_true, if_false]) | (with_reducible go_step))
      clear k5_0 k5_1 k5_2 k5_3 k5_4 k5_5 k5_6 k5_s
      refine regionI_F (fun (LJ : Nat → Bool) (sJ : Nat → Value) (wJ : World) => Cells wJ w.heap.size [.int .i64 W.rules.slice, .int .i64 W.rules.load, .int .i64 W.rules.dump, .int .i64 W.rules.patience, .int .i64 W.rules.rate, .slice aj W.jobs.length cj, .slice af W.faults.length cf] ∧ Cells wJ (w.heap.size + 1) [.string J.name, .int .i64 J.arrive, .int .i64 J.claim, .int .i64 J.needs, .int .i64 F.at0, .int .i64 F.rep, .bool false] ∧ (LJ 9 = false → Cells wJ BM [.int .i64 W.rules.slice, .int .i64 W.rules.load, .int .i64 W.rules.dump, .int .i64 W.rules.patience, .int .i64 W.rules.rate, .slice aj W.jobs.length cj, .slice af W.faults.length cf]) ∧ (LJ 9 = true → Cells wJ BM [.int .i64 W.rules.slice, .int .i64 W.rules.load, .int .i64 W.rules.dump, .int .i64 W.rules.patience, .int .i64 W.rules.rate, sJ 47, .slice af W.faults.length cf]) ∧ (LJ 9 = true → LJ 7 = true) ∧ (LJ 3 = true → LJ 0 = true) ∧ (LJ 7 = true → LJ 3 = true) ∧ Below w.heap.size w wJ ∧ N ≤ wJ.heap.size ∧ RdSpells wJ a7 (day W till).1 ∧ sJ 1 = .int .i64 till ∧ sJ 3 = .pointer (some ⟨w.heap.size, 0, none⟩) ∧ sJ 5 = .pointer (some ⟨w.heap.size + 1, 0, none⟩) ∧ sJ 7 = .slice a7 (day W till).1.length c7 ∧ sJ 9 = .int .i64 (dayErr W till) ∧ sJ 10 = .pointer (some ⟨BM, 0, none⟩) ∧ sJ 11 = .int .i64 J.arrive ∧ (LJ 1 = true → sJ 41 = .pointer (some ⟨w.heap.size, 5, none⟩)) ∧ (LJ 2 = true → sJ 42 = .slice aj W.jobs.length cj) ∧ (LJ 4 = true → sJ 44 = .pointer (some ⟨w.heap.size + 1, 0, none⟩)) ∧ (LJ 5 = true → sJ 45 = .agg #[.string J.name, .int .i64 J.arrive, .int .i64 J.claim, .int .i64 J.needs]) ∧ (LJ 8 = true → sJ 48 = .pointer (some ⟨BM, 5, none⟩)) ∧ (LJ 0 = true → LJ 3 = false → Own Job.cs 4 56 N wJ (sJ 40) ([] : List Job)) ∧ (LJ 3 = true → LJ 7 = false → Own Job.cs 4 56 N wJ (sJ 43) W.jobs) ∧ (LJ 6 = true → Own Job.cs 4 56 N wJ (sJ 46) [J]) ∧ (LJ 7 = true → Own Job.cs 4 56 N wJ (sJ 47) (W.jobs ++ [J])) ∧ (LJ 0 = true → LJ 3 = false → LJ 6 = true → Apart (sJ 40) (sJ 46)) ∧ (LJ 3 = true → LJ 7 = false → LJ 6 = true → Apart (sJ 43) (sJ 46)) ∧ (LJ 6 = true → LJ 7 = true → Apart (sJ 46) (sJ 47))) (by kernel_rfl) (by kernel_rfl) (by kernel_rfl) ?_ ?_ ⟨?_, ?_, ?_, ?_, ?_, ?_, ?_, ?_, ?_, ?_, trivial⟩
      · refine ⟨(by repeat (first | (with_reducible exact k3) | (with_reducible refine Cells.drew ?_) | (with_reducible refine Cells.up ?_ _) | (with_reducible refine Cells.setFar ?_ (by omega)))), (by repeat (first | (with_reducible exact k5) | (with_reducible refine Cells.drew ?_) | (with_reducible refine Cells.up ?_ _) | (with_reducible refine Cells.setFar ?_ (by omega)))), fun _ => (by repeat (first | (with_reducible exact kM) | (with_reducible refine Cells.drew ?_) | (with_reducible refine Cells.up ?_ _) | (with_reducible refine Cells.setFar ?_ (by omega)))), (by simp), (by simp), (by simp), (by simp), (by repeat (first | (with_reducible exact HB3.out) | (with_reducible refine bdrewN ?_ _) | (with_reducible refine Below.drew ?_) | (with_reducible refine Below.setCell ?_ (by first | omega | (simp; done) | (simp; omega)) _) | (with_reducible refine Below.alloc ?_ (by first | omega | (simp; done) | (simp; omega)) _))), (by first | omega | (simp; done) | (simp; omega)), (hl), ?_, ?_, ?_, ?_, ?_, ?_, ?_, (by simp), (by simp), (by simp), (by simp), (by simp), (by simp), (by simp), (by simp), (by simp), (by simp), (by simp), (by simp)⟩
        · go_simp
        · go_simp
        · go_simp
        · go_simp
        · go_simp
        · go_simp
        · go_simp
      · rintro sJ wJ ⟨kB0, kB1, kB2, kC2, kO2, kQ3, kQ7, kLow, kSz, hlJ, hs1, hs3, hs5, hs7, hs9, hs10, hs11, hv1, hv2, hv4, hv5, hv8, kW0, kW3, kW6, kW7, kE0_6, kE3_6, kE6_7⟩
        replace kB2 := kC2 (by simp)
        clear kC2
        clear kO2
        clear kQ3
        clear kQ7
        replace hv1 := hv1 (by simp)
        replace hv2 := hv2 (by simp)
        replace hv4 := hv4 (by simp)
        replace hv5 := hv5 (by simp)
        replace hv8 := hv8 (by simp)
        clear kW0
        clear kW3
        replace kW6 := kW6 (by simp)
        replace kW7 := kW7 (by simp)
        clear kE0_6
        clear kE3_6
        replace kE6_7 := kE6_7 (by simp) (by simp)
        obtain ⟨a2, c2, hv2, hrd2, hfr2⟩ := Own.slice (f := Job.cs) (m := 4) (fun _ => rfl) kW7
        rw [hv2] at kB2
        skip
        repeat (first | ((first | (refine listF_step rfl (fun K' hK => ?_)) | (refine listF_yes rfl rfl (by decide) ?_ (fun K' hK => ?_); (focus (go_simp; done)))); unfold opF; go_simp; (refine hK _ _ ?_); clear hK K') | (refine listF_no (b' := true) rfl rfl (by decide) ?_ ?_ ?_; (focus (go_simp; done)); (focus rfl)) | (refine listF_no (b' := false) rfl rfl (by decide) ?_ ?_ ?_; (focus (go_simp; done)); (focus rfl)) | (refine listF_nu rfl rfl (by decide) ?_ ?_; (focus (go_simp; done))) | (refine listF_nil ?_) | (refine region_F ?_) | (refine cond_F true ?_ ?_; (focus (go_simp; done)); simp only [if_true]) | (refine cond_F false ?_ ?_; (focus (go_simp; done)); simp only [Bool.false_eq_true, if_false]) | (with_reducible go_step))
        exact ⟨rfl, _, rfl, withJob W J, J.arrive, a2, af, c2, cf, by go_simp, by go_simp, by go_simp, by go_simp, by go_simp, by go_simp, kB0, kB2, ⟨hrd2, Rd.at HF.out kLow, by show (W.jobs ++ [J]).length ≤ _; simp; omega, HW.out.fl, nm_snoc HW.out.nm hJn⟩, kLow, hlJ, hid (fun h1 h2 => later_job h1 h2)⟩
      · rintro LJ sJ wJ hL hd ⟨kB0, kB1, kB2, kC2, kO2, kQ3, kQ7, kLow, kSz, hlJ, hs1, hs3, hs5, hs7, hs9, hs10, hs11, hv1, hv2, hv4, hv5, hv8, kW0, kW3, kW6, kW7, kE0_6, kE3_6, kE6_7⟩ K hK
        clear hd
        rw [if_pos (by rfl)]
        unfold opF
        go_simp
        exact hK _ _ ⟨(Cells.up (kB0) _), (Cells.up (kB1) _), (fun h => by have h := (by simpa [upd] using h : LJ 9 = false); exact Cells.up (kB2 h) _), (fun h => by have h := (by simpa [upd] using h : LJ 9 = true); refine Cells.up ?_ _; simpa [updS] using kC2 h), (by simpa [upd] using kO2), (by simp [upd]), (by simpa [upd] using kQ7), (kLow.alloc (by omega) _), (by first | omega | (simp; done) | (simp; omega) | (have := hG.size; omega)), (Rd.at hlJ ((Below.refl _ _).alloc (Nat.le_refl _) _)), (by simpa [upd, updS] using hs1), (by simpa [upd, updS] using hs3), (by simpa [upd, updS] using hs5), (by simpa [upd, updS] using hs7), (by simpa [upd, updS] using hs9), (by simpa [upd, updS] using hs10), (by simpa [upd, updS] using hs11), (by simpa [upd, updS] using hv1), (by simpa [upd, updS] using hv2), (by simpa [upd, updS] using hv4), (by simpa [upd, updS] using hv5), (by simpa [upd, updS] using hv8), (fun _ _ => by first | exact Own.lit (by omega) (by unfold maxLen; simp) (by rfl) (fun _ => rfl) | (simp only [updS_some, ↓reduceIte]; exact Own.lit (by omega) (by unfold maxLen; simp) (by rfl) (fun _ => rfl))), (fun h h' => by have h1 := (by simpa [upd] using h : LJ 3 = true); have h2 := (by simpa [upd] using h' : LJ 7 = false); simpa [updS] using Own.alloc (kW3 h1 h2) _), (fun h => by have h1 := (by simpa [upd] using h : LJ 6 = true); simpa [updS] using Own.alloc (kW6 h1) _), (fun h => by have h1 := (by simpa [upd] using h : LJ 7 = true); simpa [updS] using Own.alloc (kW7 h1) _), (fun h1 h2 h3 => by have h2 := (by simpa [upd] using h2 : LJ 3 = false); have h3 := (by simpa [upd] using h3 : LJ 6 = true); simpa [updS] using (Apart.new (kW6 h3) _ _).symm), (fun h1 h2 h3 => by have h1 := (by simpa [upd] using h1 : LJ 3 = true); have h2 := (by simpa [upd] using h2 : LJ 7 = false); have h3 := (by simpa [upd] using h3 : LJ 6 = true); simpa [updS] using kE3_6 h1 h2 h3), (fun h1 h3 => by have h1 := (by simpa [upd] using h1 : LJ 6 = true); have h3 := (by simpa [upd] using h3 : LJ 7 = true); simpa [updS] using kE6_7 h1 h3)⟩
      · rintro LJ sJ wJ hL hd ⟨kB0, kB1, kB2, kC2, kO2, kQ3, kQ7, kLow, kSz, hlJ, hs1, hs3, hs5, hs7, hs9, hs10, hs11, hv1, hv2, hv4, hv5, hv8, kW0, kW3, kW6, kW7, kE0_6, kE3_6, kE6_7⟩ K hK
        clear hd
        rw [if_pos (by rfl)]
        unfold opF
        go_simp
        exact hK _ _ ⟨(kB0), (kB1), (fun h => by have h := (by simpa [upd] using h : LJ 9 = false); exact kB2 h), (fun h => by have h := (by simpa [upd] using h : LJ 9 = true); simpa [updS] using kC2 h), (by simpa [upd] using kO2), (by simpa [upd] using kQ3), (by simpa [upd] using kQ7), kLow, (by first | omega | (simp; done) | (simp; omega) | (have := hG.size; omega)), (hlJ), (by simpa [upd, updS] using hs1), (by simpa [upd, updS] using hs3), (by simpa [upd, updS] using hs5), (by simpa [upd, updS] using hs7), (by simpa [upd, updS] using hs9), (by simpa [upd, updS] using hs10), (by simpa [upd, updS] using hs11), (by simp [upd, updS]), (by simpa [upd, updS] using hv2), (by simpa [upd, updS] using hv4), (by simpa [upd, updS] using hv5), (by simpa [upd, updS] using hv8), (fun h h' => by have h1 := (by simpa [upd] using h : LJ 0 = true); have h2 := (by simpa [upd] using h' : LJ 3 = false); simpa [updS] using (kW0 h1 h2)), (fun h h' => by have h1 := (by simpa [upd] using h : LJ 3 = true); have h2 := (by simpa [upd] using h' : LJ 7 = false); simpa [updS] using (kW3 h1 h2)), (fun h => by have h1 := (by simpa [upd] using h : LJ 6 = true); simpa [updS] using (kW6 h1)), (fun h => by have h1 := (by simpa [upd] using h : LJ 7 = true); simpa [updS] using (kW7 h1)), (fun h1 h2 h3 => by have h1 := (by simpa [upd] using h1 : LJ 0 = true); have h2 := (by simpa [upd] using h2 : LJ 3 = false); have h3 := (by simpa [upd] using h3 : LJ 6 = true); simpa [updS] using kE0_6 h1 h2 h3), (fun h1 h2 h3 => by have h1 := (by simpa [upd] using h1 : LJ 3 = true); have h2 := (by simpa [upd] using h2 : LJ 7 = false); have h3 := (by simpa [upd] using h3 : LJ 6 = true); simpa [updS] using kE3_6 h1 h2 h3), (fun h1 h3 => by have h1 := (by simpa [upd] using h1 : LJ 6 = true); have h3 := (by simpa [upd] using h3 : LJ 7 = true); simpa [updS] using kE6_7 h1 h3)⟩
      · rintro LJ sJ wJ hL hd ⟨kB0, kB1, kB2, kC2, kO2, kQ3, kQ7, kLow, kSz, hlJ, hs1, hs3, hs5, hs7, hs9, hs10, hs11, hv1, hv2, hv4, hv5, hv8, kW0, kW3, kW6, kW7, kE0_6, kE3_6, kE6_7⟩ K hK
        have ga1 := hd ⟨1, .data⟩ (by simp) rfl
        have gv1 := hv1 ga1
        clear hd
        rw [if_pos (by rfl)]
        unfold opF
        have cc0_0 := kB0.cell 0 rfl
        have cc0_1 := kB0.cell 1 rfl
        have cc0_2 := kB0.cell 2 rfl
        have cc0_3 := kB0.cell 3 rfl
        have cc0_4 := kB0.cell 4 rfl
        have cc0_5 := kB0.cell 5 rfl
        have cc0_6 := kB0.cell 6 rfl
        have ccs0 := kB0.1
        go_simp
        exact hK _ _ ⟨(kB0), (kB1), (fun h => by have h := (by simpa [upd] using h : LJ 9 = false); exact kB2 h), (fun h => by have h := (by simpa [upd] using h : LJ 9 = true); simpa [updS] using kC2 h), (by simpa [upd] using kO2), (by simpa [upd] using kQ3), (by simpa [upd] using kQ7), kLow, (by first | omega | (simp; done) | (simp; omega) | (have := hG.size; omega)), (hlJ), (by simpa [upd, updS] using hs1), (by simpa [upd, updS] using hs3), (by simpa [upd, updS] using hs5), (by simpa [upd, updS] using hs7), (by simpa [upd, updS] using hs9), (by simpa [upd, updS] using hs10), (by simpa [upd, updS] using hs11), (by simpa [upd, updS] using hv1), (by simp [upd, updS]), (by simpa [upd, updS] using hv4), (by simpa [upd, updS] using hv5), (by simpa [upd, updS] using hv8), (fun h h' => by have h1 := (by simpa [upd] using h : LJ 0 = true); have h2 := (by simpa [upd] using h' : LJ 3 = false); simpa [updS] using (kW0 h1 h2)), (fun h h' => by have h1 := (by simpa [upd] using h : LJ 3 = true); have h2 := (by simpa [upd] using h' : LJ 7 = false); simpa [updS] using (kW3 h1 h2)), (fun h => by have h1 := (by simpa [upd] using h : LJ 6 = true); simpa [updS] using (kW6 h1)), (fun h => by have h1 := (by simpa [upd] using h : LJ 7 = true); simpa [updS] using (kW7 h1)), (fun h1 h2 h3 => by have h1 := (by simpa [upd] using h1 : LJ 0 = true); have h2 := (by simpa [upd] using h2 : LJ 3 = false); have h3 := (by simpa [upd] using h3 : LJ 6 = true); simpa [updS] using kE0_6 h1 h2 h3), (fun h1 h2 h3 => by have h1 := (by simpa [upd] using h1 : LJ 3 = true); have h2 := (by simpa [upd] using h2 : LJ 7 = false); have h3 := (by simpa [upd] using h3 : LJ 6 = true); simpa [updS] using kE3_6 h1 h2 h3), (fun h1 h3 => by have h1 := (by simpa [upd] using h1 : LJ 6 = true); have h3 := (by simpa [upd] using h3 : LJ 7 = true); simpa [updS] using kE6_7 h1 h3)⟩
      · rintro LJ sJ wJ hL hd ⟨kB0, kB1, kB2, kC2, kO2, kQ3, kQ7, kLow, kSz, hlJ, hs1, hs3, hs5, hs7, hs9, hs10, hs11, hv1, hv2, hv4, hv5, hv8, kW0, kW3, kW6, kW7, kE0_6, kE3_6, kE6_7⟩ K hK
        have ga0 := hd ⟨0, .data⟩ (by simp) rfl
        have ga2 := hd ⟨2, .data⟩ (by simp) rfl
        have gv2 := hv2 ga2
        clear hd
        rw [if_pos (by rfl)]
        have hcj : LJ 3 = false := hL
        have kWx := kW0 ga0 hcj
        refine opF_app (d := 43) rfl (by decide) (.tmp 40) (.tmp 42) _ rfl 56 i1 _ 40 Try.underlying24 hi1 hy0 hy1 hy2 rfl (by decide) (fun _ => rfl) job_one N (sJ 40) ([] : List Job) W.jobs aj cj (by go_simp) (by go_simp) kWx (Rd.at HJ.out kLow) (by simp; unfold maxLen; omega) (by simp; omega) (by omega) (fun v' w' hO hG hV => ?_)
        exact hK _ _ ⟨(Cells.grown (kB0) hG (Own.far kWx (by omega))), (Cells.grown (kB1) hG (Own.far kWx (by omega))), (fun h => by have h := (by simpa [upd] using h : LJ 9 = false); exact Cells.grown (kB2 h) hG (Own.far kWx (by omega))), (fun h => by have h := (by simpa [upd] using h : LJ 9 = true); refine Cells.grown ?_ hG (Own.far kWx (by omega)); simpa [updS] using kC2 h), (by simpa [upd] using kO2), (by simp [upd]; exact ga0), (by simp [upd]), (low_grown kLow hG (by omega) (fun k hk => by have := (World.ownsRow.lt kWx k hk).1; omega)), (by first | omega | (simp; done) | (simp; omega) | (have := hG.size; omega)), (Rd.grown hlJ hG (fun h b hb => Own.far kWx (by have := H7.out h b hb; omega))), (by simpa [upd, updS] using hs1), (by simpa [upd, updS] using hs3), (by simpa [upd, updS] using hs5), (by simpa [upd, updS] using hs7), (by simpa [upd, updS] using hs9), (by simpa [upd, updS] using hs10), (by simpa [upd, updS] using hs11), (by simpa [upd, updS] using hv1), (by simpa [upd, updS] using hv2), (by simpa [upd, updS] using hv4), (by simpa [upd, updS] using hv5), (by simpa [upd, updS] using hv8), (fun _ h => by simp [upd] at h), (fun _ _ => by first | exact hO | (simp only [updS_some, ↓reduceIte]; exact hO)), (fun h => by have h1 := (by simpa [upd] using h : LJ 6 = true); simpa [updS] using Own.grown (kW6 h1) hG (kE0_6 ga0 hcj h1).symm), (fun h => by have h1 := (by simpa [upd] using h : LJ 7 = true); exact absurd (kQ7 h1) (by rw [hL]; decide)), (fun h1 h2 h3 => by simp [upd] at h2), (fun h1 h2 h3 => by have h2 := (by simpa [upd] using h2 : LJ 7 = false); have h3 := (by simpa [upd] using h3 : LJ 6 = true); simpa [updS] using (Apart.app (kW6 h3) (kE0_6 ga0 hcj h3).symm hV).symm), (fun h1 h3 => by have h1 := (by simpa [upd] using h1 : LJ 6 = true); have h3 := (by simpa [upd] using h3 : LJ 7 = true); simpa [updS] using kE6_7 h1 h3)⟩
      · rintro LJ sJ wJ hL hd ⟨kB0, kB1, kB2, kC2, kO2, kQ3, kQ7, kLow, kSz, hlJ, hs1, hs3, hs5, hs7, hs9, hs10, hs11, hv1, hv2, hv4, hv5, hv8, kW0, kW3, kW6, kW7, kE0_6, kE3_6, kE6_7⟩ K hK
        clear hd
        rw [if_pos (by rfl)]
        unfold opF
        go_simp
        exact hK _ _ ⟨(kB0), (kB1), (fun h => by have h := (by simpa [upd] using h : LJ 9 = false); exact kB2 h), (fun h => by have h := (by simpa [upd] using h : LJ 9 = true); simpa [updS] using kC2 h), (by simpa [upd] using kO2), (by simpa [upd] using kQ3), (by simpa [upd] using kQ7), kLow, (by first | omega | (simp; done) | (simp; omega) | (have := hG.size; omega)), (hlJ), (by simpa [upd, updS] using hs1), (by simpa [upd, updS] using hs3), (by simpa [upd, updS] using hs5), (by simpa [upd, updS] using hs7), (by simpa [upd, updS] using hs9), (by simpa [upd, updS] using hs10), (by simpa [upd, updS] using hs11), (by simpa [upd, updS] using hv1), (by simpa [upd, updS] using hv2), (by simp [upd, updS]), (by simpa [upd, updS] using hv5), (by simpa [upd, updS] using hv8), (fun h h' => by have h1 := (by simpa [upd] using h : LJ 0 = true); have h2 := (by simpa [upd] using h' : LJ 3 = false); simpa [updS] using (kW0 h1 h2)), (fun h h' => by have h1 := (by simpa [upd] using h : LJ 3 = true); have h2 := (by simpa [upd] using h' : LJ 7 = false); simpa [updS] using (kW3 h1 h2)), (fun h => by have h1 := (by simpa [upd] using h : LJ 6 = true); simpa [updS] using (kW6 h1)), (fun h => by have h1 := (by simpa [upd] using h : LJ 7 = true); simpa [updS] using (kW7 h1)), (fun h1 h2 h3 => by have h1 := (by simpa [upd] using h1 : LJ 0 = true); have h2 := (by simpa [upd] using h2 : LJ 3 = false); have h3 := (by simpa [upd] using h3 : LJ 6 = true); simpa [updS] using kE0_6 h1 h2 h3), (fun h1 h2 h3 => by have h1 := (by simpa [upd] using h1 : LJ 3 = true); have h2 := (by simpa [upd] using h2 : LJ 7 = false); have h3 := (by simpa [upd] using h3 : LJ 6 = true); simpa [updS] using kE3_6 h1 h2 h3), (fun h1 h3 => by have h1 := (by simpa [upd] using h1 : LJ 6 = true); have h3 := (by simpa [upd] using h3 : LJ 7 = true); simpa [updS] using kE6_7 h1 h3)⟩
      · rintro LJ sJ wJ hL hd ⟨kB0, kB1, kB2, kC2, kO2, kQ3, kQ7, kLow, kSz, hlJ, hs1, hs3, hs5, hs7, hs9, hs10, hs11, hv1, hv2, hv4, hv5, hv8, kW0, kW3, kW6, kW7, kE0_6, kE3_6, kE6_7⟩ K hK
        have ga4 := hd ⟨4, .data⟩ (by simp) rfl
        have gv4 := hv4 ga4
        clear hd
        rw [if_pos (by rfl)]
        unfold opF
        have cc1_0 := kB1.cell 0 rfl
        have cc1_1 := kB1.cell 1 rfl
        have cc1_2 := kB1.cell 2 rfl
        have cc1_3 := kB1.cell 3 rfl
        have cc1_4 := kB1.cell 4 rfl
        have cc1_5 := kB1.cell 5 rfl
        have cc1_6 := kB1.cell 6 rfl
        have ccs1 := kB1.1
        go_simp
        exact hK _ _ ⟨(kB0), (kB1), (fun h => by have h := (by simpa [upd] using h : LJ 9 = false); exact kB2 h), (fun h => by have h := (by simpa [upd] using h : LJ 9 = true); simpa [updS] using kC2 h), (by simpa [upd] using kO2), (by simpa [upd] using kQ3), (by simpa [upd] using kQ7), kLow, (by first | omega | (simp; done) | (simp; omega) | (have := hG.size; omega)), (hlJ), (by simpa [upd, updS] using hs1), (by simpa [upd, updS] using hs3), (by simpa [upd, updS] using hs5), (by simpa [upd, updS] using hs7), (by simpa [upd, updS] using hs9), (by simpa [upd, updS] using hs10), (by simpa [upd, updS] using hs11), (by simpa [upd, updS] using hv1), (by simpa [upd, updS] using hv2), (by simpa [upd, updS] using hv4), (by simp [upd, updS]), (by simpa [upd, updS] using hv8), (fun h h' => by have h1 := (by simpa [upd] using h : LJ 0 = true); have h2 := (by simpa [upd] using h' : LJ 3 = false); simpa [updS] using (kW0 h1 h2)), (fun h h' => by have h1 := (by simpa [upd] using h : LJ 3 = true); have h2 := (by simpa [upd] using h' : LJ 7 = false); simpa [updS] using (kW3 h1 h2)), (fun h => by have h1 := (by simpa [upd] using h : LJ 6 = true); simpa [updS] using (kW6 h1)), (fun h => by have h1 := (by simpa [upd] using h : LJ 7 = true); simpa [updS] using (kW7 h1)), (fun h1 h2 h3 => by have h1 := (by simpa [upd] using h1 : LJ 0 = true); have h2 := (by simpa [upd] using h2 : LJ 3 = false); have h3 := (by simpa [upd] using h3 : LJ 6 = true); simpa [updS] using kE0_6 h1 h2 h3), (fun h1 h2 h3 => by have h1 := (by simpa [upd] using h1 : LJ 3 = true); have h2 := (by simpa [upd] using h2 : LJ 7 = false); have h3 := (by simpa [upd] using h3 : LJ 6 = true); simpa [updS] using kE3_6 h1 h2 h3), (fun h1 h3 => by have h1 := (by simpa [upd] using h1 : LJ 6 = true); have h3 := (by simpa [upd] using h3 : LJ 7 = true); simpa [updS] using kE6_7 h1 h3)⟩
      · rintro LJ sJ wJ hL hd ⟨kB0, kB1, kB2, kC2, kO2, kQ3, kQ7, kLow, kSz, hlJ, hs1, hs3, hs5, hs7, hs9, hs10, hs11, hv1, hv2, hv4, hv5, hv8, kW0, kW3, kW6, kW7, kE0_6, kE3_6, kE6_7⟩ K hK
        have ga5 := hd ⟨5, .data⟩ (by simp) rfl
        have gv5 := hv5 ga5
        clear hd
        rw [if_pos (by rfl)]
        unfold opF
        go_simp
        exact hK _ _ ⟨(Cells.up (kB0) _), (Cells.up (kB1) _), (fun h => by have h := (by simpa [upd] using h : LJ 9 = false); exact Cells.up (kB2 h) _), (fun h => by have h := (by simpa [upd] using h : LJ 9 = true); refine Cells.up ?_ _; simpa [updS] using kC2 h), (by simpa [upd] using kO2), (by simpa [upd] using kQ3), (by simpa [upd] using kQ7), (kLow.alloc (by omega) _), (by first | omega | (simp; done) | (simp; omega) | (have := hG.size; omega)), (Rd.at hlJ ((Below.refl _ _).alloc (Nat.le_refl _) _)), (by simpa [upd, updS] using hs1), (by simpa [upd, updS] using hs3), (by simpa [upd, updS] using hs5), (by simpa [upd, updS] using hs7), (by simpa [upd, updS] using hs9), (by simpa [upd, updS] using hs10), (by simpa [upd, updS] using hs11), (by simpa [upd, updS] using hv1), (by simpa [upd, updS] using hv2), (by simpa [upd, updS] using hv4), (by simpa [upd, updS] using hv5), (by simpa [upd, updS] using hv8), (fun h h' => by have h1 := (by simpa [upd] using h : LJ 0 = true); have h2 := (by simpa [upd] using h' : LJ 3 = false); simpa [updS] using Own.alloc (kW0 h1 h2) _), (fun h h' => by have h1 := (by simpa [upd] using h : LJ 3 = true); have h2 := (by simpa [upd] using h' : LJ 7 = false); simpa [updS] using Own.alloc (kW3 h1 h2) _), (fun _ => by first | exact Own.lit (by omega) (by unfold maxLen; simp) (by rfl) (fun _ => rfl) | (simp only [updS_some, ↓reduceIte]; exact Own.lit (by omega) (by unfold maxLen; simp) (by rfl) (fun _ => rfl))), (fun h => by have h1 := (by simpa [upd] using h : LJ 7 = true); simpa [updS] using Own.alloc (kW7 h1) _), (fun h1 h2 h3 => by have h1 := (by simpa [upd] using h1 : LJ 0 = true); have h2 := (by simpa [upd] using h2 : LJ 3 = false); simpa [updS] using Apart.new (kW0 h1 h2) _ _), (fun h1 h2 h3 => by have h1 := (by simpa [upd] using h1 : LJ 3 = true); have h2 := (by simpa [upd] using h2 : LJ 7 = false); simpa [updS] using Apart.new (kW3 h1 h2) _ _), (fun h1 h3 => by have h3 := (by simpa [upd] using h3 : LJ 7 = true); simpa [updS] using (Apart.new (kW7 h3) _ _).symm)⟩
      · rintro LJ sJ wJ hL hd ⟨kB0, kB1, kB2, kC2, kO2, kQ3, kQ7, kLow, kSz, hlJ, hs1, hs3, hs5, hs7, hs9, hs10, hs11, hv1, hv2, hv4, hv5, hv8, kW0, kW3, kW6, kW7, kE0_6, kE3_6, kE6_7⟩ K hK
        have ga3 := hd ⟨3, .data⟩ (by simp) rfl
        have ga6 := hd ⟨6, .data⟩ (by simp) rfl
        have ga3 := hd ⟨3, .chain⟩ (by simp) rfl
        clear hd
        rw [if_pos (by rfl)]
        have hcj : LJ 7 = false := hL
        have kWx := kW3 ga3 hcj
        have kWy := kW6 ga6
        obtain ⟨ay, cy, hvy, hry, hny⟩ := Own.slice (f := Job.cs) (m := 4) (fun _ => rfl) kWy
        refine opF_app (d := 47) rfl (by decide) (.tmp 43) (.tmp 46) _ rfl 56 i1 _ 40 Try.underlying24 hi1 hy0 hy1 hy2 rfl (by decide) (fun _ => rfl) job_one N (sJ 43) W.jobs [J] ay cy (by go_simp) (by simpa using hvy) kWx hry (by simp; unfold maxLen; omega) (by simp; omega) (by omega) (fun v' w' hO hG hV => ?_)
        exact hK _ _ ⟨(Cells.grown (kB0) hG (Own.far kWx (by omega))), (Cells.grown (kB1) hG (Own.far kWx (by omega))), (fun h => by have h := (by simpa [upd] using h : LJ 9 = false); exact Cells.grown (kB2 h) hG (Own.far kWx (by omega))), (fun h => by have h := (by simpa [upd] using h : LJ 9 = true); exact absurd (kO2 h) (by rw [hL]; decide)), (by simp [upd]), (by simpa [upd] using kQ3), (by simp [upd]; exact ga3), (low_grown kLow hG (by omega) (fun k hk => by have := (World.ownsRow.lt kWx k hk).1; omega)), (by first | omega | (simp; done) | (simp; omega) | (have := hG.size; omega)), (Rd.grown hlJ hG (fun h b hb => Own.far kWx (by have := H7.out h b hb; omega))), (by simpa [upd, updS] using hs1), (by simpa [upd, updS] using hs3), (by simpa [upd, updS] using hs5), (by simpa [upd, updS] using hs7), (by simpa [upd, updS] using hs9), (by simpa [upd, updS] using hs10), (by simpa [upd, updS] using hs11), (by simpa [upd, updS] using hv1), (by simpa [upd, updS] using hv2), (by simpa [upd, updS] using hv4), (by simpa [upd, updS] using hv5), (by simpa [upd, updS] using hv8), (fun h h' => by have h2 := (by simpa [upd] using h' : LJ 3 = false); exact absurd ga3 (by rw [h2]; decide)), (fun _ h => by simp [upd] at h), (fun h => by have h1 := (by simpa [upd] using h : LJ 6 = true); simpa [updS] using Own.grown (kW6 h1) hG (kE3_6 ga3 hcj h1).symm), (fun _ => by first | exact hO | (simp only [updS_some, ↓reduceIte]; exact hO)), (fun h1 h2 h3 => by have h1 := (by simpa [upd] using h1 : LJ 0 = true); have h2 := (by simpa [upd] using h2 : LJ 3 = false); have h3 := (by simpa [upd] using h3 : LJ 6 = true); simpa [updS] using kE0_6 h1 h2 h3), (fun h1 h2 h3 => by simp [upd] at h2), (fun h1 h3 => by have h1 := (by simpa [upd] using h1 : LJ 6 = true); simpa [updS] using Apart.app (kW6 h1) (kE3_6 ga3 hcj h1).symm hV)⟩
      · rintro LJ sJ wJ hL hd ⟨kB0, kB1, kB2, kC2, kO2, kQ3, kQ7, kLow, kSz, hlJ, hs1, hs3, hs5, hs7, hs9, hs10, hs11, hv1, hv2, hv4, hv5, hv8, kW0, kW3, kW6, kW7, kE0_6, kE3_6, kE6_7⟩ K hK
        have ga0 := hd ⟨0, .phase⟩ (by simp) rfl
        have ga1 := hd ⟨1, .phase⟩ (by simp) rfl
        have gv1 := hv1 ga1
        have ga2 := hd ⟨2, .phase⟩ (by simp) rfl
        have gv2 := hv2 ga2
        have ga3 := hd ⟨3, .phase⟩ (by simp) rfl
        have ga4 := hd ⟨4, .phase⟩ (by simp) rfl
        have gv4 := hv4 ga4
        have ga5 := hd ⟨5, .phase⟩ (by simp) rfl
        have gv5 := hv5 ga5
        have ga6 := hd ⟨6, .phase⟩ (by simp) rfl
        have ga7 := hd ⟨7, .phase⟩ (by simp) rfl
        clear hd
        rw [if_pos (by rfl)]
        unfold opF
        go_simp
        exact hK _ _ ⟨(kB0), (kB1), (fun h => by have h := (by simpa [upd] using h : LJ 9 = false); exact kB2 h), (fun h => by have h := (by simpa [upd] using h : LJ 9 = true); simpa [updS] using kC2 h), (by simpa [upd] using kO2), (by simpa [upd] using kQ3), (by simpa [upd] using kQ7), kLow, (by first | omega | (simp; done) | (simp; omega) | (have := hG.size; omega)), (hlJ), (by simpa [upd, updS] using hs1), (by simpa [upd, updS] using hs3), (by simpa [upd, updS] using hs5), (by simpa [upd, updS] using hs7), (by simpa [upd, updS] using hs9), (by simpa [upd, updS] using hs10), (by simpa [upd, updS] using hs11), (by simpa [upd, updS] using hv1), (by simpa [upd, updS] using hv2), (by simpa [upd, updS] using hv4), (by simpa [upd, updS] using hv5), (by simp [upd, updS]), (fun h h' => by have h1 := (by simpa [upd] using h : LJ 0 = true); have h2 := (by simpa [upd] using h' : LJ 3 = false); simpa [updS] using (kW0 h1 h2)), (fun h h' => by have h1 := (by simpa [upd] using h : LJ 3 = true); have h2 := (by simpa [upd] using h' : LJ 7 = false); simpa [updS] using (kW3 h1 h2)), (fun h => by have h1 := (by simpa [upd] using h : LJ 6 = true); simpa [updS] using (kW6 h1)), (fun h => by have h1 := (by simpa [upd] using h : LJ 7 = true); simpa [updS] using (kW7 h1)), (fun h1 h2 h3 => by have h1 := (by simpa [upd] using h1 : LJ 0 = true); have h2 := (by simpa [upd] using h2 : LJ 3 = false); have h3 := (by simpa [upd] using h3 : LJ 6 = true); simpa [updS] using kE0_6 h1 h2 h3), (fun h1 h2 h3 => by have h1 := (by simpa [upd] using h1 : LJ 3 = true); have h2 := (by simpa [upd] using h2 : LJ 7 = false); have h3 := (by simpa [upd] using h3 : LJ 6 = true); simpa [updS] using kE3_6 h1 h2 h3), (fun h1 h3 => by have h1 := (by simpa [upd] using h1 : LJ 6 = true); have h3 := (by simpa [upd] using h3 : LJ 7 = true); simpa [updS] using kE6_7 h1 h3)⟩
      · rintro LJ sJ wJ hL hd ⟨kB0, kB1, kB2, kC2, kO2, kQ3, kQ7, kLow, kSz, hlJ, hs1, hs3, hs5, hs7, hs9, hs10, hs11, hv1, hv2, hv4, hv5, hv8, kW0, kW3, kW6, kW7, kE0_6, kE3_6, kE6_7⟩ K hK
        have ga8 := hd ⟨8, .data⟩ (by simp) rfl
        have gv8 := hv8 ga8
        have ga7 := hd ⟨7, .data⟩ (by simp) rfl
        have ga7 := hd ⟨7, .chain⟩ (by simp) rfl
        have ga0 := hd ⟨0, .phase⟩ (by simp) rfl
        have ga1 := hd ⟨1, .phase⟩ (by simp) rfl
        have gv1 := hv1 ga1
        have ga2 := hd ⟨2, .phase⟩ (by simp) rfl
        have gv2 := hv2 ga2
        have ga3 := hd ⟨3, .phase⟩ (by simp) rfl
        have ga4 := hd ⟨4, .phase⟩ (by simp) rfl
        have gv4 := hv4 ga4
        have ga5 := hd ⟨5, .phase⟩ (by simp) rfl
        have gv5 := hv5 ga5
        have ga6 := hd ⟨6, .phase⟩ (by simp) rfl
        have ga7 := hd ⟨7, .phase⟩ (by simp) rfl
        clear hd
        rw [if_pos (by rfl)]
        have kWs := kW7 (by first | assumption | exact ga7)
        obtain ⟨ay, cy, hvy, _, _⟩ := Own.slice (f := Job.cs) (m := 4) (fun _ => rfl) kWs
        have kN2 := kB2 hL
        have cc2_0 := kN2.cell 0 rfl
        have cc2_1 := kN2.cell 1 rfl
        have cc2_2 := kN2.cell 2 rfl
        have cc2_3 := kN2.cell 3 rfl
        have cc2_4 := kN2.cell 4 rfl
        have cc2_5 := kN2.cell 5 rfl
        have cc2_6 := kN2.cell 6 rfl
        have ccs := kN2.1
        have ccz := kN2.2.2
        have Hvy := hid hvy
        unfold opF
        go_simp
        exact hK undef _ ⟨(Cells.setFar (kB0) (by omega)), (Cells.setFar (kB1) (by omega)), (by simp [upd]), (fun _ => by show Cells _ BM [.int .i64 W.rules.slice, .int .i64 W.rules.load, .int .i64 W.rules.dump, .int .i64 W.rules.patience, .int .i64 W.rules.rate, sJ 47, .slice af W.faults.length cf]; rw [Hvy.out]; have hz := kN2.set (i := 5) (u := Value.slice ay ((W.jobs ++ [J])).length cy); simpa using hz), (by simp [upd]; exact ga7), (by simpa [upd] using kQ3), (by simpa [upd] using kQ7), (kLow.setCell (by first | omega | (simp; omega)) _), (by first | omega | (simp; done) | (simp; omega) | (have := hG.size; omega)), (Rd.far hlJ (fun h b hb => by have := H7.out h b hb; omega)), (by simpa [upd, updS] using hs1), (by simpa [upd, updS] using hs3), (by simpa [upd, updS] using hs5), (by simpa [upd, updS] using hs7), (by simpa [upd, updS] using hs9), (by simpa [upd, updS] using hs10), (by simpa [upd, updS] using hs11), (by simpa [upd, updS] using hv1), (by simpa [upd, updS] using hv2), (by simpa [upd, updS] using hv4), (by simpa [upd, updS] using hv5), (by simpa [upd, updS] using hv8), (fun h h' => by have h1 := (by simpa [upd] using h : LJ 0 = true); have h2 := (by simpa [upd] using h' : LJ 3 = false); simpa [updS] using Own.setFar' (kW0 h1 h2) (by omega) _), (fun h h' => by have h1 := (by simpa [upd] using h : LJ 3 = true); have h2 := (by simpa [upd] using h' : LJ 7 = false); simpa [updS] using Own.setFar' (kW3 h1 h2) (by omega) _), (fun h => by have h1 := (by simpa [upd] using h : LJ 6 = true); simpa [updS] using Own.setFar' (kW6 h1) (by omega) _), (fun h => by have h1 := (by simpa [upd] using h : LJ 7 = true); simpa [updS] using Own.setFar' (kW7 h1) (by omega) _), (fun h1 h2 h3 => by have h1 := (by simpa [upd] using h1 : LJ 0 = true); have h2 := (by simpa [upd] using h2 : LJ 3 = false); have h3 := (by simpa [upd] using h3 : LJ 6 = true); simpa [updS] using kE0_6 h1 h2 h3), (fun h1 h2 h3 => by have h1 := (by simpa [upd] using h1 : LJ 3 = true); have h2 := (by simpa [upd] using h2 : LJ 7 = false); have h3 := (by simpa [upd] using h3 : LJ 6 = true); simpa [updS] using kE3_6 h1 h2 h3), (fun h1 h3 => by have h1 := (by simpa [upd] using h1 : LJ 6 = true); have h3 := (by simpa [upd] using h3 : LJ 7 = true); simpa [updS] using kE6_7 h1 h3)⟩
  rintro s wq ⟨W2, at0, aj2, af2, cj2, cf2, sl1, sl3, sl7, sl9, sl10, sl11, k3, kM, hW2, hB, hl, HL⟩
  have HB4 := hid hB
  clear hB HB3 H7 HF HJ hN hN3 hN4 hN5 hl3 hsz hs12 hs2 hs23 hn7 hJ4
  generalize hsN : w.heap.size = B3 at k3 sl3
  by_cases hE : dayErr W till = 0
  · obtain ⟨hK, he, ht0, ht5⟩ := day_ok hE
    have He := hid he
    have HE := hid hE
    have hLl := (day_spells hE).1
    rw [hE] at sl9
    clear hK he hE
    have k3_0 := k3.cell 0 rfl
    have k3_1 := k3.cell 1 rfl
    have k3_2 := k3.cell 2 rfl
    have k3_3 := k3.cell 3 rfl
    have k3_4 := k3.cell 4 rfl
    have k3_5 := k3.cell 5 rfl
    have k3_6 := k3.cell 6 rfl
    have k3_s := k3.1
    repeat (first | ((first | (refine listF_step rfl (fun K' hK => ?_)) | (refine listF_yes rfl rfl (by decide) ?_ (fun K' hK => ?_); (focus (go_simp; done)))); unfold opF; go_simp; (refine hK _ _ ?_); clear hK K') | (refine listF_no (b' := true) rfl rfl (by decide) ?_ ?_ ?_; (focus (go_simp; done)); (focus rfl)) | (refine listF_no (b' := false) rfl rfl (by decide) ?_ ?_ ?_; (focus (go_simp; done)); (focus rfl)) | (refine listF_nu rfl rfl (by decide) ?_ ?_; (focus (go_simp; done))) | (refine listF_nil ?_) | (refine region_F ?_) | (refine cond_F true ?_ ?_; (focus (go_simp; done)); simp only [if_true]) | (refine cond_F false ?_ ?_; (focus (go_simp; done)); simp only [Bool.false_eq_true, if_false]) | (with_reducible go_step))
    (refine listF_abs ?_; intro s' hs'; have gl1 := congrFun hs' 1; simp only [updS_some, updS_none, Nat.reduceEqDiff, ↓reduceIte] at gl1; (try rw [sl1] at gl1); have gl3 := congrFun hs' 3; simp only [updS_some, updS_none, Nat.reduceEqDiff, ↓reduceIte] at gl3; (try rw [sl3] at gl3); have gl7 := congrFun hs' 7; simp only [updS_some, updS_none, Nat.reduceEqDiff, ↓reduceIte] at gl7; (try rw [sl7] at gl7); have gl9 := congrFun hs' 9; simp only [updS_some, updS_none, Nat.reduceEqDiff, ↓reduceIte] at gl9; (try rw [sl9] at gl9); have gl10 := congrFun hs' 10; simp only [updS_some, updS_none, Nat.reduceEqDiff, ↓reduceIte] at gl10; (try rw [sl10] at gl10); have gl11 := congrFun hs' 11; simp only [updS_some, updS_none, Nat.reduceEqDiff, ↓reduceIte] at gl11; (try rw [sl11] at gl11); have gl51 := congrFun hs' 51; simp only [updS_some, updS_none, Nat.reduceEqDiff, ↓reduceIte] at gl51; (try rw [sl51] at gl51); have gl52 := congrFun hs' 52; simp only [updS_some, updS_none, Nat.reduceEqDiff, ↓reduceIte] at gl52; (try rw [sl52] at gl52); clear hs'; (try clear sl1); (try clear sl3); (try clear sl7); (try clear sl9); (try clear sl10); (try clear sl11); (try clear sl51); (try clear sl52); have sl1 := gl1; clear gl1; have sl3 := gl3; clear gl3; have sl7 := gl7; clear gl7; have sl9 := gl9; clear gl9; have sl10 := gl10; clear gl10; have sl11 := gl11; clear gl11; have sl51 := gl51; clear gl51; have sl52 := gl52; clear gl52)
    (refine listF_yes rfl rfl (by decide) ?_ (fun K' hK => ?_); (focus (go_simp; done)); unfold opF; go_simp; refine (valid_any W aj af cj cf _ (HW.out.at HB4.out)).mono ?_; rintro e w5 ⟨rfl, hb5⟩; refine ⟨_, rfl, hK _ _ ?_⟩; clear hK K')
    rw [show (W.err == 0) = true by simp [He.out]]
    clear k3_0 k3_1 k3_2 k3_3 k3_4 k3_5 k3_6 k3_s
    replace k3 := k3.at hb5
    replace kM := kM.at hb5
    replace hW2 := hW2.at hb5
    replace hl := Rd.at hl hb5
    have HB5 := hid (HB4.out.trans (hb5.mono HB4.out.size) : Below w.heap.size w w5)
    clear hb5 HB4
    (refine listF_abs ?_; intro s' hs'; have gl1 := congrFun hs' 1; simp only [updS_some, updS_none, Nat.reduceEqDiff, ↓reduceIte] at gl1; (try rw [sl1] at gl1); have gl3 := congrFun hs' 3; simp only [updS_some, updS_none, Nat.reduceEqDiff, ↓reduceIte] at gl3; (try rw [sl3] at gl3); have gl7 := congrFun hs' 7; simp only [updS_some, updS_none, Nat.reduceEqDiff, ↓reduceIte] at gl7; (try rw [sl7] at gl7); have gl9 := congrFun hs' 9; simp only [updS_some, updS_none, Nat.reduceEqDiff, ↓reduceIte] at gl9; (try rw [sl9] at gl9); have gl10 := congrFun hs' 10; simp only [updS_some, updS_none, Nat.reduceEqDiff, ↓reduceIte] at gl10; (try rw [sl10] at gl10); have gl11 := congrFun hs' 11; simp only [updS_some, updS_none, Nat.reduceEqDiff, ↓reduceIte] at gl11; (try rw [sl11] at gl11); have gl51 := congrFun hs' 51; simp only [updS_some, updS_none, Nat.reduceEqDiff, ↓reduceIte] at gl51; (try rw [sl51] at gl51); have gl53 := congrFun hs' 53; simp only [updS_some, updS_none, Nat.reduceEqDiff, ↓reduceIte] at gl53; (try rw [sl53] at gl53); clear hs'; (try clear sl1); (try clear sl3); (try clear sl7); (try clear sl9); (try clear sl10); (try clear sl11); (try clear sl51); (try clear sl53); have sl1 := gl1; clear gl1; have sl3 := gl3; clear gl3; have sl7 := gl7; clear gl7; have sl9 := gl9; clear gl9; have sl10 := gl10; clear gl10; have sl11 := gl11; clear gl11; have sl51 := gl51; clear gl51; have sl53 := gl53; clear gl53)
    have kM_0 := kM.cell 0 rfl
    have kM_1 := kM.cell 1 rfl
    have kM_2 := kM.cell 2 rfl
    have kM_3 := kM.cell 3 rfl
    have kM_4 := kM.cell 4 rfl
    have kM_5 := kM.cell 5 rfl
    have kM_6 := kM.cell 6 rfl
    have kM_s := kM.1
    repeat (first | ((first | (refine listF_step rfl (fun K' hK => ?_)) | (refine listF_yes rfl rfl (by decide) ?_ (fun K' hK => ?_); (focus (go_simp; done)))); unfold opF; go_simp; (refine hK _ _ ?_); clear hK K') | (refine listF_no (b' := true) rfl rfl (by decide) ?_ ?_ ?_; (focus (go_simp; done)); (focus rfl)) | (refine listF_no (b' := false) rfl rfl (by decide) ?_ ?_ ?_; (focus (go_simp; done)); (focus rfl)) | (refine listF_nu rfl rfl (by decide) ?_ ?_; (focus (go_simp; done))) | (refine listF_nil ?_) | (refine region_F ?_) | (refine cond_F true ?_ ?_; (focus (go_simp; done)); simp only [if_true]) | (refine cond_F false ?_ ?_; (focus (go_simp; done)); simp only [Bool.false_eq_true, if_false]) | (with_reducible go_step))
    (refine listF_abs ?_; intro s' hs'; have gl1 := congrFun hs' 1; simp only [updS_some, updS_none, Nat.reduceEqDiff, ↓reduceIte] at gl1; (try rw [sl1] at gl1); have gl3 := congrFun hs' 3; simp only [updS_some, updS_none, Nat.reduceEqDiff, ↓reduceIte] at gl3; (try rw [sl3] at gl3); have gl7 := congrFun hs' 7; simp only [updS_some, updS_none, Nat.reduceEqDiff, ↓reduceIte] at gl7; (try rw [sl7] at gl7); have gl9 := congrFun hs' 9; simp only [updS_some, updS_none, Nat.reduceEqDiff, ↓reduceIte] at gl9; (try rw [sl9] at gl9); have gl10 := congrFun hs' 10; simp only [updS_some, updS_none, Nat.reduceEqDiff, ↓reduceIte] at gl10; (try rw [sl10] at gl10); have gl11 := congrFun hs' 11; simp only [updS_some, updS_none, Nat.reduceEqDiff, ↓reduceIte] at gl11; (try rw [sl11] at gl11); have gl56 := congrFun hs' 56; simp only [updS_some, updS_none, Nat.reduceEqDiff, ↓reduceIte] at gl56; (try rw [sl56] at gl56); have gl57 := congrFun hs' 57; simp only [updS_some, updS_none, Nat.reduceEqDiff, ↓reduceIte] at gl57; (try rw [sl57] at gl57); clear hs'; (try clear sl1); (try clear sl3); (try clear sl7); (try clear sl9); (try clear sl10); (try clear sl11); (try clear sl56); (try clear sl57); have sl1 := gl1; clear gl1; have sl3 := gl3; clear gl3; have sl7 := gl7; clear gl7; have sl9 := gl9; clear gl9; have sl10 := gl10; clear gl10; have sl11 := gl11; clear gl11; have sl56 := gl56; clear gl56; have sl57 := gl57; clear gl57)
    (refine listF_yes rfl rfl (by decide) ?_ (fun K' hK => ?_); (focus (go_simp; done)); unfold opF; go_simp; refine (valid_any W2 aj2 af2 cj2 cf2 _ hW2).mono ?_; rintro e w6 ⟨rfl, hb6⟩; refine ⟨_, rfl, hK _ _ ?_⟩; clear hK K')
    clear kM_0 kM_1 kM_2 kM_3 kM_4 kM_5 kM_6 kM_s
    replace k3 := k3.at hb6
    replace kM := kM.at hb6
    replace hW2 := hW2.at hb6
    replace hl := Rd.at hl hb6
    have HB6 := hid (HB5.out.trans (hb6.mono HB5.out.size) : Below w.heap.size w w6)
    clear hb6 HB5
    (refine listF_abs ?_; intro s' hs'; have gl1 := congrFun hs' 1; simp only [updS_some, updS_none, Nat.reduceEqDiff, ↓reduceIte] at gl1; (try rw [sl1] at gl1); have gl3 := congrFun hs' 3; simp only [updS_some, updS_none, Nat.reduceEqDiff, ↓reduceIte] at gl3; (try rw [sl3] at gl3); have gl7 := congrFun hs' 7; simp only [updS_some, updS_none, Nat.reduceEqDiff, ↓reduceIte] at gl7; (try rw [sl7] at gl7); have gl9 := congrFun hs' 9; simp only [updS_some, updS_none, Nat.reduceEqDiff, ↓reduceIte] at gl9; (try rw [sl9] at gl9); have gl10 := congrFun hs' 10; simp only [updS_some, updS_none, Nat.reduceEqDiff, ↓reduceIte] at gl10; (try rw [sl10] at gl10); have gl11 := congrFun hs' 11; simp only [updS_some, updS_none, Nat.reduceEqDiff, ↓reduceIte] at gl11; (try rw [sl11] at gl11); have gl56 := congrFun hs' 56; simp only [updS_some, updS_none, Nat.reduceEqDiff, ↓reduceIte] at gl56; (try rw [sl56] at gl56); have gl58 := congrFun hs' 58; simp only [updS_some, updS_none, Nat.reduceEqDiff, ↓reduceIte] at gl58; (try rw [sl58] at gl58); clear hs'; (try clear sl1); (try clear sl3); (try clear sl7); (try clear sl9); (try clear sl10); (try clear sl11); (try clear sl56); (try clear sl58); have sl1 := gl1; clear gl1; have sl3 := gl3; clear gl3; have sl7 := gl7; clear gl7; have sl9 := gl9; clear gl9; have sl10 := gl10; clear gl10; have sl11 := gl11; clear gl11; have sl56 := gl56; clear gl56; have sl58 := gl58; clear gl58)
    rcases Bool.eq_false_or_eq_true (W2.err == 0) with h2 | h2
    · obtain ⟨hE2, hlaw⟩ := HL.out HE.out (by simpa using h2)
      rw [h2] at sl58
      have Hlaw := hid hlaw
      have HE2 := hid hE2
      clear hlaw hE2 h2
      have kM_0 := kM.cell 0 rfl
      have kM_1 := kM.cell 1 rfl
      have kM_2 := kM.cell 2 rfl
      have kM_3 := kM.cell 3 rfl
      have kM_4 := kM.cell 4 rfl
      have kM_5 := kM.cell 5 rfl
      have kM_6 := kM.cell 6 rfl
      have kM_s := kM.1
      repeat (first | ((first | (refine listF_step rfl (fun K' hK => ?_)) | (refine listF_yes rfl rfl (by decide) ?_ (fun K' hK => ?_); (focus (go_simp; done)))); unfold opF; go_simp; (refine hK _ _ ?_); clear hK K') | (refine listF_no (b' := true) rfl rfl (by decide) ?_ ?_ ?_; (focus (go_simp; done)); (focus rfl)) | (refine listF_no (b' := false) rfl rfl (by decide) ?_ ?_ ?_; (focus (go_simp; done)); (focus rfl)) | (refine listF_nu rfl rfl (by decide) ?_ ?_; (focus (go_simp; done))) | (refine listF_nil ?_) | (refine region_F ?_) | (refine cond_F true ?_ ?_; (focus (go_simp; done)); simp only [if_true]) | (refine cond_F false ?_ ?_; (focus (go_simp; done)); simp only [Bool.false_eq_true, if_false]) | (with_reducible go_step))
      (refine listF_abs ?_; intro s' hs'; have gl1 := congrFun hs' 1; simp only [updS_some, updS_none, Nat.reduceEqDiff, ↓reduceIte] at gl1; (try rw [sl1] at gl1); have gl7 := congrFun hs' 7; simp only [updS_some, updS_none, Nat.reduceEqDiff, ↓reduceIte] at gl7; (try rw [sl7] at gl7); have gl9 := congrFun hs' 9; simp only [updS_some, updS_none, Nat.reduceEqDiff, ↓reduceIte] at gl9; (try rw [sl9] at gl9); have gl11 := congrFun hs' 11; simp only [updS_some, updS_none, Nat.reduceEqDiff, ↓reduceIte] at gl11; (try rw [sl11] at gl11); have gl71 := congrFun hs' 71; simp only [updS_some, updS_none, Nat.reduceEqDiff, ↓reduceIte] at gl71; (try rw [sl71] at gl71); have gl72 := congrFun hs' 72; simp only [updS_some, updS_none, Nat.reduceEqDiff, ↓reduceIte] at gl72; (try rw [sl72] at gl72); clear hs'; (try clear sl1); (try clear sl7); (try clear sl9); (try clear sl11); (try clear sl71); (try clear sl72); have sl1 := gl1; clear gl1; have sl7 := gl7; clear gl7; have sl9 := gl9; clear gl9; have sl11 := gl11; clear gl11; have sl71 := gl71; clear gl71; have sl72 := gl72; clear gl72)
      (refine listF_step rfl (fun K' hK => ?_); unfold opF; go_simp; refine (qDay_any W2 till aj2 af2 cj2 cf2 _ hW2).mono ?_; rintro e w7 ⟨am, cm, aq, cq, rfl, hm, hq, hb7, _⟩; refine ⟨_, rfl, hK _ _ ?_⟩; clear hK K')
      rw [HE2.out]
      clear kM_0 kM_1 kM_2 kM_3 kM_4 kM_5 kM_6 kM_s
      replace hl := Rd.at hl hb7
      have HB7 := hid (HB6.out.trans (hb7.mono HB6.out.size) : Below w.heap.size w w7)
      clear hb7 HB6 hq kM k3 hW2
      (refine listF_abs ?_; intro s' hs'; have gl7 := congrFun hs' 7; simp only [updS_some, updS_none, Nat.reduceEqDiff, ↓reduceIte] at gl7; (try rw [sl7] at gl7); have gl11 := congrFun hs' 11; simp only [updS_some, updS_none, Nat.reduceEqDiff, ↓reduceIte] at gl11; (try rw [sl11] at gl11); have gl73 := congrFun hs' 73; simp only [updS_some, updS_none, Nat.reduceEqDiff, ↓reduceIte] at gl73; (try rw [sl73] at gl73); clear hs'; (try clear sl7); (try clear sl11); (try clear sl73); have sl7 := gl7; clear gl7; have sl11 := gl11; clear gl11; have sl73 := gl73; clear gl73)
      iterate 8 (refine listF_step rfl (fun K' hK => ?_); unfold opF; go_simp; refine hK _ _ ?_; clear hK K')
      refine listF_absw ?_
      intro w8 hw8
      have hbw8 : Below w7.heap.size w7 w8 := by rw [hw8]; exact (by repeat (first | (with_reducible exact Below.refl _ w7) | (with_reducible refine bdrewN ?_ _) | (with_reducible refine Below.drew ?_) | (with_reducible refine Below.setCell ?_ (by first | omega | (simp; done) | (simp; omega)) _) | (with_reducible refine Below.alloc ?_ (by first | omega | (simp; done) | (simp; omega)) _)))
      clear hw8
      replace hl := Rd.at hl hbw8
      replace hm := Rd.at hm hbw8
      have HB8 := hid (HB7.out.trans (hbw8.mono HB7.out.size) : Below w.heap.size w w8)
      clear hbw8 HB7
      have hLm := (day_spells HE2.out).1
      (refine listF_abs ?_; intro s' hs'; have gl7 := congrFun hs' 7; simp only [updS_some, updS_none, Nat.reduceEqDiff, ↓reduceIte] at gl7; (try rw [sl7] at gl7); have gl9 := congrFun hs' 9; simp only [updS_some, updS_none, Nat.reduceEqDiff, ↓reduceIte] at gl9; (try rw [sl9] at gl9); have gl11 := congrFun hs' 11; simp only [updS_some, updS_none, Nat.reduceEqDiff, ↓reduceIte] at gl11; (try rw [sl11] at gl11); have gl12 := congrFun hs' 12; simp only [updS_some, updS_none, Nat.reduceEqDiff, ↓reduceIte] at gl12; (try rw [sl12] at gl12); clear hs'; (try clear sl7); (try clear sl9); (try clear sl11); (try clear sl12); have sl7 := gl7; clear gl7; have sl9 := gl9; clear gl9; have sl11 := gl11; clear gl11; have sl12 := gl12; clear gl12)
      repeat (first | ((first | (refine listF_step rfl (fun K' hK => ?_)) | (refine listF_yes rfl rfl (by decide) ?_ (fun K' hK => ?_); (focus (go_simp; done)))); unfold opF; go_simp; (refine hK _ _ ?_); clear hK K') | (refine listF_no (b' := true) rfl rfl (by decide) ?_ ?_ ?_; (focus (go_simp; done)); (focus rfl)) | (refine listF_no (b' := false) rfl rfl (by decide) ?_ ?_ ?_; (focus (go_simp; done)); (focus rfl)) | (refine listF_nu rfl rfl (by decide) ?_ ?_; (focus (go_simp; done))) | (refine listF_nil ?_) | (refine region_F ?_) | (refine cond_F true ?_ ?_; (focus (go_simp; done)); simp only [if_true]) | (refine cond_F false ?_ ?_; (focus (go_simp; done)); simp only [Bool.false_eq_true, if_false]) | (with_reducible go_step))
      (refine wp_abs ?_; intro s' hs'; have gl7 := congrFun hs' 7; simp only [updS_some, updS_none, Nat.reduceEqDiff, ↓reduceIte] at gl7; (try rw [sl7] at gl7); have gl11 := congrFun hs' 11; simp only [updS_some, updS_none, Nat.reduceEqDiff, ↓reduceIte] at gl11; (try rw [sl11] at gl11); have gl12 := congrFun hs' 12; simp only [updS_some, updS_none, Nat.reduceEqDiff, ↓reduceIte] at gl12; (try rw [sl12] at gl12); have gl14 := congrFun hs' 14; simp only [updS_some, updS_none, Nat.reduceEqDiff, ↓reduceIte] at gl14; (try rw [sl14] at gl14); clear hs'; (try clear sl7); (try clear sl11); (try clear sl12); (try clear sl14); have sl7 := gl7; clear gl7; have sl11 := gl11; clear gl11; have sl12 := gl12; clear gl12; have sl14 := gl14; clear gl14)
      refine loop_F (n := 110) (fun k s wr => ∃ i : Nat, k = (day W till).1.length - i ∧ i ≤ (day W till).1.length ∧ s 7 = .slice a7 (day W till).1.length c7 ∧ s 11 = .int .i64 at0 ∧ s 12 = .slice am (day W2 till).1.length cm ∧ s 14 = .int .i64 i ∧ Below w8.heap.size w8 wr) (k0 := (day W till).1.length) ⟨0, by omega, by omega, sl7, sl11, sl12, sl14, Below.refl _ _⟩ ?_
      clear sl7 sl11 sl12 sl14
      rintro k s wi ⟨i, rfl, hi, sl7, sl11, sl12, sl14, hBi⟩
      replace hl := Rd.at hl hBi
      replace hm := Rd.at hm hBi
      have HBi := hid hBi
      have HBw := hid (HB8.out.trans (hBi.mono HB8.out.size) : Below w.heap.size w wi)
      clear hBi
      by_cases hlt : i < (day W till).1.length
      · obtain ⟨b7, o7, rfl, hb7, d1, d2, d3, d4⟩ := RdSpells.ne hl hlt
        have hla := Hlaw.out i _ (List.getElem?_eq_getElem hlt)
        generalize (day W till).1[i] = sp at *
        have hwi : IntKind.i64.wrap ((i : Int) + 1) = (i : Int) + 1 := IntWalk.i64_in _ (by omega)
        by_cases hle : sp.until0 ≤ at0
        · obtain ⟨hlt2, hget⟩ := List.getElem?_eq_some_iff.1 (hla hle)
          obtain ⟨bm, om, rfl, hbm, e1, e2, e3, e4⟩ := RdSpells.ne hm hlt2
          rw [hget] at e1 e2 e3 e4
          have g1 : decide (sp.until0 ≤ at0) = true := decide_eq_true hle
          have g2 : decide ((day W2 till).1.length ≤ i) = false := decide_eq_false (by omega)
          clear hla hget hle
          repeat (first | ((first | (refine listF_step rfl (fun K' hK => ?_)) | (refine listF_yes rfl rfl (by decide) ?_ (fun K' hK => ?_); (focus (go_simp; done)))); unfold opF; go_simp; (refine hK _ _ ?_); clear hK K') | (refine listF_no (b' := true) rfl rfl (by decide) ?_ ?_ ?_; (focus (go_simp; done)); (focus rfl)) | (refine listF_no (b' := false) rfl rfl (by decide) ?_ ?_ ?_; (focus (go_simp; done)); (focus rfl)) | (refine listF_nu rfl rfl (by decide) ?_ ?_; (focus (go_simp; done))) | (refine listF_nil ?_) | (refine region_F ?_) | (refine cond_F true ?_ ?_; (focus (go_simp; done)); simp only [if_true]) | (refine cond_F false ?_ ?_; (focus (go_simp; done)); simp only [Bool.false_eq_true, if_false]) | (with_reducible go_step))
          refine regionQ_F (Below wi.heap.size wi) (by kernel_rfl) (by kernel_rfl) (Below.refl _ _).drew ?_
          repeat (first | (refine listQ_step (v := ?_) rfl ?_ ?_; rotate_left; (focus (intro wq hwq; obtain ⟨hcq, hfq⟩ := bcell hwq; go_simp; (first | rfl | (exact ⟨rfl, rfl⟩) | (fail))))) | (refine listQ_yes (v := ?_) rfl rfl (by decide) ?_ ?_ ?_; rotate_left; (focus (go_simp; done)); (focus (intro wq hwq; obtain ⟨hcq, hfq⟩ := bcell hwq; go_simp; (first | rfl | (exact ⟨rfl, rfl⟩) | (fail))))) | (refine listQ_no (b' := true) rfl rfl (by decide) ?_ ?_ ?_; (focus (go_simp; done)); (focus rfl)) | (refine listQ_no (b' := false) rfl rfl (by decide) ?_ ?_ ?_; (focus (go_simp; done)); (focus rfl)) | (refine listQ_nu rfl rfl (by decide) ?_ ?_; (focus (go_simp; done))) | (refine listQ_nil ?_))
          intro w9 hw9
          have HB9 := hid (HBi.out.trans (hw9.mono HBi.out.size) : Below w8.heap.size w8 w9)
          repeat (first | ((first | (refine listF_step rfl (fun K' hK => ?_)) | (refine listF_yes rfl rfl (by decide) ?_ (fun K' hK => ?_); (focus (go_simp; done)))); unfold opF; go_simp; (refine hK _ _ ?_); clear hK K') | (refine listF_no (b' := true) rfl rfl (by decide) ?_ ?_ ?_; (focus (go_simp; done)); (focus rfl)) | (refine listF_no (b' := false) rfl rfl (by decide) ?_ ?_ ?_; (focus (go_simp; done)); (focus rfl)) | (refine listF_nu rfl rfl (by decide) ?_ ?_; (focus (go_simp; done))) | (refine listF_nil ?_) | (refine region_F ?_) | (refine cond_F true ?_ ?_; (focus (go_simp; done)); simp only [if_true]) | (refine cond_F false ?_ ?_; (focus (go_simp; done)); simp only [Bool.false_eq_true, if_false]) | (with_reducible go_step))
          refine ⟨_, _, rfl, ?_, i + 1, rfl, by omega, (by first | (go_simp; done) | exact sl7 | (simp only [updS_some, updS_none, Nat.reduceEqDiff, ↓reduceIte]; exact sl7)), (by first | (go_simp; done) | exact sl11 | (simp only [updS_some, updS_none, Nat.reduceEqDiff, ↓reduceIte]; exact sl11)), (by first | (go_simp; done) | exact sl12 | (simp only [updS_some, updS_none, Nat.reduceEqDiff, ↓reduceIte]; exact sl12)), by go_simp, HB9.out⟩
          omega
        · have g1 : decide (sp.until0 ≤ at0) = false := decide_eq_false hle
          clear hla hle
          repeat (first | ((first | (refine listF_step rfl (fun K' hK => ?_)) | (refine listF_yes rfl rfl (by decide) ?_ (fun K' hK => ?_); (focus (go_simp; done)))); unfold opF; go_simp; (refine hK _ _ ?_); clear hK K') | (refine listF_no (b' := true) rfl rfl (by decide) ?_ ?_ ?_; (focus (go_simp; done)); (focus rfl)) | (refine listF_no (b' := false) rfl rfl (by decide) ?_ ?_ ?_; (focus (go_simp; done)); (focus rfl)) | (refine listF_nu rfl rfl (by decide) ?_ ?_; (focus (go_simp; done))) | (refine listF_nil ?_) | (refine region_F ?_) | (refine cond_F true ?_ ?_; (focus (go_simp; done)); simp only [if_true]) | (refine cond_F false ?_ ?_; (focus (go_simp; done)); simp only [Bool.false_eq_true, if_false]) | (with_reducible go_step))
          refine regionQ_F (Below wi.heap.size wi) (by kernel_rfl) (by kernel_rfl) (Below.refl _ _).drew ?_
          repeat (first | (refine listQ_step (v := ?_) rfl ?_ ?_; rotate_left; (focus (intro wq hwq; obtain ⟨hcq, hfq⟩ := bcell hwq; go_simp; (first | rfl | (exact ⟨rfl, rfl⟩) | (fail))))) | (refine listQ_yes (v := ?_) rfl rfl (by decide) ?_ ?_ ?_; rotate_left; (focus (go_simp; done)); (focus (intro wq hwq; obtain ⟨hcq, hfq⟩ := bcell hwq; go_simp; (first | rfl | (exact ⟨rfl, rfl⟩) | (fail))))) | (refine listQ_no (b' := true) rfl rfl (by decide) ?_ ?_ ?_; (focus (go_simp; done)); (focus rfl)) | (refine listQ_no (b' := false) rfl rfl (by decide) ?_ ?_ ?_; (focus (go_simp; done)); (focus rfl)) | (refine listQ_nu rfl rfl (by decide) ?_ ?_; (focus (go_simp; done))) | (refine listQ_nil ?_))
          intro w9 hw9
          have HB9 := hid (HBi.out.trans (hw9.mono HBi.out.size) : Below w8.heap.size w8 w9)
          repeat (first | ((first | (refine listF_step rfl (fun K' hK => ?_)) | (refine listF_yes rfl rfl (by decide) ?_ (fun K' hK => ?_); (focus (go_simp; done)))); unfold opF; go_simp; (refine hK _ _ ?_); clear hK K') | (refine listF_no (b' := true) rfl rfl (by decide) ?_ ?_ ?_; (focus (go_simp; done)); (focus rfl)) | (refine listF_no (b' := false) rfl rfl (by decide) ?_ ?_ ?_; (focus (go_simp; done)); (focus rfl)) | (refine listF_nu rfl rfl (by decide) ?_ ?_; (focus (go_simp; done))) | (refine listF_nil ?_) | (refine region_F ?_) | (refine cond_F true ?_ ?_; (focus (go_simp; done)); simp only [if_true]) | (refine cond_F false ?_ ?_; (focus (go_simp; done)); simp only [Bool.false_eq_true, if_false]) | (with_reducible go_step))
          refine ⟨_, _, rfl, ?_, i + 1, rfl, by omega, (by first | (go_simp; done) | exact sl7 | (simp only [updS_some, updS_none, Nat.reduceEqDiff, ↓reduceIte]; exact sl7)), (by first | (go_simp; done) | exact sl11 | (simp only [updS_some, updS_none, Nat.reduceEqDiff, ↓reduceIte]; exact sl11)), (by first | (go_simp; done) | exact sl12 | (simp only [updS_some, updS_none, Nat.reduceEqDiff, ↓reduceIte]; exact sl12)), by go_simp, HB9.out⟩
          omega
      · repeat (first | ((first | (refine listF_step rfl (fun K' hK => ?_)) | (refine listF_yes rfl rfl (by decide) ?_ (fun K' hK => ?_); (focus (go_simp; done)))); unfold opF; go_simp; (refine hK _ _ ?_); clear hK K') | (refine listF_no (b' := true) rfl rfl (by decide) ?_ ?_ ?_; (focus (go_simp; done)); (focus rfl)) | (refine listF_no (b' := false) rfl rfl (by decide) ?_ ?_ ?_; (focus (go_simp; done)); (focus rfl)) | (refine listF_nu rfl rfl (by decide) ?_ ?_; (focus (go_simp; done))) | (refine listF_nil ?_) | (refine region_F ?_) | (refine cond_F true ?_ ?_; (focus (go_simp; done)); simp only [if_true]) | (refine cond_F false ?_ ?_; (focus (go_simp; done)); simp only [Bool.false_eq_true, if_false]) | (with_reducible go_step))
        (refine listF_step rfl (fun K' hK => ?_); unfold opF; go_simp; refine (awake_any _).mono ?_; rintro e w9 ⟨rfl, hb9⟩; refine ⟨_, rfl, hK _ _ ?_⟩; clear hK K')
        repeat (first | ((first | (refine listF_step rfl (fun K' hK => ?_)) | (refine listF_yes rfl rfl (by decide) ?_ (fun K' hK => ?_); (focus (go_simp; done)))); unfold opF; go_simp; (refine hK _ _ ?_); clear hK K') | (refine listF_no (b' := true) rfl rfl (by decide) ?_ ?_ ?_; (focus (go_simp; done)); (focus rfl)) | (refine listF_no (b' := false) rfl rfl (by decide) ?_ ?_ ?_; (focus (go_simp; done)); (focus rfl)) | (refine listF_nu rfl rfl (by decide) ?_ ?_; (focus (go_simp; done))) | (refine listF_nil ?_) | (refine region_F ?_) | (refine cond_F true ?_ ?_; (focus (go_simp; done)); simp only [if_true]) | (refine cond_F false ?_ ?_; (focus (go_simp; done)); simp only [Bool.false_eq_true, if_false]) | (with_reducible go_step))
        exact ret_F (.bool true) (res1_F Try.results14 (by decide) (by go_simp)) ⟨rfl, HBw.out.trans (hb9.mono HBw.out.size)⟩
    · rw [h2] at sl58
      have k3_0 := k3.cell 0 rfl
      have k3_1 := k3.cell 1 rfl
      have k3_2 := k3.cell 2 rfl
      have k3_3 := k3.cell 3 rfl
      have k3_4 := k3.cell 4 rfl
      have k3_5 := k3.cell 5 rfl
      have k3_6 := k3.cell 6 rfl
      have k3_s := k3.1
      repeat (first | ((first | (refine listF_step rfl (fun K' hK => ?_)) | (refine listF_yes rfl rfl (by decide) ?_ (fun K' hK => ?_); (focus (go_simp; done)))); unfold opF; go_simp; (refine hK _ _ ?_); clear hK K') | (refine listF_no (b' := true) rfl rfl (by decide) ?_ ?_ ?_; (focus (go_simp; done)); (focus rfl)) | (refine listF_no (b' := false) rfl rfl (by decide) ?_ ?_ ?_; (focus (go_simp; done)); (focus rfl)) | (refine listF_nu rfl rfl (by decide) ?_ ?_; (focus (go_simp; done))) | (refine listF_nil ?_) | (refine region_F ?_) | (refine cond_F true ?_ ?_; (focus (go_simp; done)); simp only [if_true]) | (refine cond_F false ?_ ?_; (focus (go_simp; done)); simp only [Bool.false_eq_true, if_false]) | (with_reducible go_step))
      (refine listF_abs ?_; intro s' hs'; have gl9 := congrFun hs' 9; simp only [updS_some, updS_none, Nat.reduceEqDiff, ↓reduceIte] at gl9; (try rw [sl9] at gl9); have gl63 := congrFun hs' 63; simp only [updS_some, updS_none, Nat.reduceEqDiff, ↓reduceIte] at gl63; (try rw [sl63] at gl63); have gl64 := congrFun hs' 64; simp only [updS_some, updS_none, Nat.reduceEqDiff, ↓reduceIte] at gl64; (try rw [sl64] at gl64); clear hs'; (try clear sl9); (try clear sl63); (try clear sl64); have sl9 := gl9; clear gl9; have sl63 := gl63; clear gl63; have sl64 := gl64; clear gl64)
      (refine listF_yes rfl rfl (by decide) ?_ (fun K' hK => ?_); (focus (go_simp; done)); unfold opF; go_simp; refine (valid_any W aj af cj cf _ (HW.out.at HB6.out)).mono ?_; rintro e w7 ⟨rfl, hb7⟩; refine ⟨_, rfl, hK _ _ ?_⟩; clear hK K')
      rw [show (W.err == 0) = true by simp [He.out]]
      clear k3_0 k3_1 k3_2 k3_3 k3_4 k3_5 k3_6 k3_s
      have HB7 := hid (HB6.out.trans (hb7.mono HB6.out.size) : Below w.heap.size w w7)
      clear hb7
      (refine listF_abs ?_; intro s' hs'; have gl63 := congrFun hs' 63; simp only [updS_some, updS_none, Nat.reduceEqDiff, ↓reduceIte] at gl63; (try rw [sl63] at gl63); have gl65 := congrFun hs' 65; simp only [updS_some, updS_none, Nat.reduceEqDiff, ↓reduceIte] at gl65; (try rw [sl65] at gl65); clear hs'; (try clear sl63); (try clear sl65); have sl63 := gl63; clear gl63; have sl65 := gl65; clear gl65)
      repeat (first | ((first | (refine listF_step rfl (fun K' hK => ?_)) | (refine listF_yes rfl rfl (by decide) ?_ (fun K' hK => ?_); (focus (go_simp; done)))); unfold opF; go_simp; (refine hK _ _ ?_); clear hK K') | (refine listF_no (b' := true) rfl rfl (by decide) ?_ ?_ ?_; (focus (go_simp; done)); (focus rfl)) | (refine listF_no (b' := false) rfl rfl (by decide) ?_ ?_ ?_; (focus (go_simp; done)); (focus rfl)) | (refine listF_nu rfl rfl (by decide) ?_ ?_; (focus (go_simp; done))) | (refine listF_nil ?_) | (refine region_F ?_) | (refine cond_F true ?_ ?_; (focus (go_simp; done)); simp only [if_true]) | (refine cond_F false ?_ ?_; (focus (go_simp; done)); simp only [Bool.false_eq_true, if_false]) | (with_reducible go_step))
      (refine listF_yes rfl rfl (by decide) ?_ (fun K' hK => ?_); (focus (go_simp; done)); unfold opF; go_simp; refine (awake_any _).mono ?_; rintro e w9 ⟨rfl, hb9⟩; refine ⟨_, rfl, hK _ _ ?_⟩; clear hK K')
      repeat (first | ((first | (refine listF_step rfl (fun K' hK => ?_)) | (refine listF_yes rfl rfl (by decide) ?_ (fun K' hK => ?_); (focus (go_simp; done)))); unfold opF; go_simp; (refine hK _ _ ?_); clear hK K') | (refine listF_no (b' := true) rfl rfl (by decide) ?_ ?_ ?_; (focus (go_simp; done)); (focus rfl)) | (refine listF_no (b' := false) rfl rfl (by decide) ?_ ?_ ?_; (focus (go_simp; done)); (focus rfl)) | (refine listF_nu rfl rfl (by decide) ?_ ?_; (focus (go_simp; done))) | (refine listF_nil ?_) | (refine region_F ?_) | (refine cond_F true ?_ ?_; (focus (go_simp; done)); simp only [if_true]) | (refine cond_F false ?_ ?_; (focus (go_simp; done)); simp only [Bool.false_eq_true, if_false]) | (with_reducible go_step))
      exact ret_F (.bool true) (res1_F Try.results14 (by decide) (by go_simp)) ⟨rfl, HB7.out.trans (hb9.mono HB7.out.size)⟩
  · have hE' : (dayErr W till != 0) = true := by simp [hE]
    repeat (first | ((first | (refine listF_step rfl (fun K' hK => ?_)) | (refine listF_yes rfl rfl (by decide) ?_ (fun K' hK => ?_); (focus (go_simp; done)))); unfold opF; go_simp; (refine hK _ _ ?_); clear hK K') | (refine listF_no (b' := true) rfl rfl (by decide) ?_ ?_ ?_; (focus (go_simp; done)); (focus rfl)) | (refine listF_no (b' := false) rfl rfl (by decide) ?_ ?_ ?_; (focus (go_simp; done)); (focus rfl)) | (refine listF_nu rfl rfl (by decide) ?_ ?_; (focus (go_simp; done))) | (refine listF_nil ?_) | (refine region_F ?_) | (refine cond_F true ?_ ?_; (focus (go_simp; done)); simp only [if_true]) | (refine cond_F false ?_ ?_; (focus (go_simp; done)); simp only [Bool.false_eq_true, if_false]) | (with_reducible go_step))
    (refine listF_yes rfl rfl (by decide) ?_ (fun K' hK => ?_); (focus (go_simp; done)); unfold opF; go_simp; refine (awake_any _).mono ?_; rintro e w9 ⟨rfl, hb9⟩; refine ⟨_, rfl, hK _ _ ?_⟩; clear hK K')
    repeat (first | ((first | (refine listF_step rfl (fun K' hK => ?_)) | (refine listF_yes rfl rfl (by decide) ?_ (fun K' hK => ?_); (focus (go_simp; done)))); unfold opF; go_simp; (refine hK _ _ ?_); clear hK K') | (refine listF_no (b' := true) rfl rfl (by decide) ?_ ?_ ?_; (focus (go_simp; done)); (focus rfl)) | (refine listF_no (b' := false) rfl rfl (by decide) ?_ ?_ ?_; (focus (go_simp; done)); (focus rfl)) | (refine listF_nu rfl rfl (by decide) ?_ ?_; (focus (go_simp; done))) | (refine listF_nil ?_) | (refine region_F ?_) | (refine cond_F true ?_ ?_; (focus (go_simp; done)); simp only [if_true]) | (refine cond_F false ?_ ?_; (focus (go_simp; done)); simp only [Bool.false_eq_true, if_false]) | (with_reducible go_step))
    exact ret_F (.bool true) (res1_F Try.results14 (by decide) (by go_simp)) ⟨rfl, HB4.out.trans (hb9.mono HB4.out.size)⟩

end Go.Proofs.Ytbjgebbfachgfaa
