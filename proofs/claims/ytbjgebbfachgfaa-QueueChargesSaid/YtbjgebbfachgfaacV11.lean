/- QueueCharges: its walk. -/
import Derived.Test.YtbjgebbfachgfaacV3
import Derived.Test.YtbjgebbfachgfaacLP
set_option linter.unusedVariables false
set_option linter.unusedSimpArgs false
set_option linter.unusedSectionVars false
set_option linter.all false
namespace Go.Proofs.Ytbjgebbfachgfaa
open Go.RowKit

theorem totals_nn : ∀ (l : List Spell) (t : Tot), (∀ s ∈ l, s.from0 < s.until0) → (0 ≤ t.run ∧ 0 ≤ t.lost ∧ 0 ≤ t.repair ∧ 0 ≤ t.idle) → 0 ≤ (l.foldl totAdd t).run ∧ 0 ≤ (l.foldl totAdd t).lost ∧ 0 ≤ (l.foldl totAdd t).repair ∧ 0 ≤ (l.foldl totAdd t).idle
  | [], t, _, h => h
  | s :: l, t, hs, h => by
    refine totals_nn l (totAdd t s) (fun x hx => hs x (by simp [hx])) ?_
    have := hs s (by simp)
    unfold totAdd
    refine ⟨?_, ?_, ?_, ?_⟩ <;> simp only <;> split <;> omega
theorem sum_snoc (l : List Int) {i : Nat} (hi : i < l.length) : (l.take (i + 1)).sum = (l.take i).sum + l[i] := by
  rw [List.take_succ_eq_append_getElem hi, List.sum_append]; simp
theorem take_sum_bd {l : List Int} {c : Int} (hc : 0 ≤ c) (h : ∀ x ∈ l, 0 ≤ x ∧ x ≤ c) (i : Nat) : 0 ≤ (l.take i).sum ∧ (l.take i).sum ≤ l.length * c := by
  have key : ∀ l : List Int, (∀ x ∈ l, 0 ≤ x ∧ x ≤ c) → 0 ≤ l.sum ∧ l.sum ≤ l.length * c := by
    intro l
    induction l with
    | nil => simp
    | cons x l ih =>
      intro h
      have h1 := h x (by simp)
      have h2 := ih (fun y hy => h y (by simp [hy]))
      simp only [List.sum_cons, List.length_cons]
      have : ((l.length + 1 : Nat) : Int) * c = l.length * c + c := by rw [Int.natCast_add, Int.add_mul]; simp
      omega
  have h1 := key (l.take i) (fun x hx => h x (List.mem_of_mem_take hx))
  have h2 : ((l.take i).length : Int) * c ≤ (l.length : Int) * c := Int.mul_le_mul_of_nonneg_right (by rw [List.length_take]; omega) hc
  omega

set_option maxRecDepth 100000 in
set_option maxHeartbeats 8000000 in
theorem charges_walk (W : Work) (till : Int) (aj af : Option Addr) (cj cf : Nat) (w : World) (hW : WorkIn w W aj af) :
    Calls Try.prog 10 #[.agg #[.int .i64 W.rules.slice, .int .i64 W.rules.load, .int .i64 W.rules.dump, .int .i64 W.rules.patience, .int .i64 W.rules.rate, .slice aj W.jobs.length cj, .slice af W.faults.length cf], .int .i64 till] w fun e w' => e = .returned (.bool true) ∧ Below w.heap.size w w' := by
  have HW := hid hW
  clear hW
  refine enter_F Try.func10 rfl Try.ntmps10 (by simp) ?_
  intro s hs
  have sl0 : s 0 = .agg #[.int .i64 W.rules.slice, .int .i64 W.rules.load, .int .i64 W.rules.dump, .int .i64 W.rules.patience, .int .i64 W.rules.rate, .slice aj W.jobs.length cj, .slice af W.faults.length cf] := hs 0 (by simp)
  have sl1 : s 1 = .int .i64 till := hs 1 (by simp)
  clear hs
  repeat (first | ((first | (refine listF_step rfl (fun K' hK => ?_)) | (refine listF_yes rfl rfl (by decide) ?_ (fun K' hK => ?_); (focus (go_simp; done)))); unfold opF; go_simp; (refine hK _ _ ?_); clear hK K') | (refine listF_no (b' := true) rfl rfl (by decide) ?_ ?_ ?_; (focus (go_simp; done)); (focus rfl)) | (refine listF_no (b' := false) rfl rfl (by decide) ?_ ?_ ?_; (focus (go_simp; done)); (focus rfl)) | (refine listF_nu rfl rfl (by decide) ?_ ?_; (focus (go_simp; done))) | (refine listF_nil ?_) | (refine region_F ?_) | (refine cond_F true ?_ ?_; (focus (go_simp; done)); simp only [if_true]) | (refine cond_F false ?_ ?_; (focus (go_simp; done)); simp only [Bool.false_eq_true, if_false]) | (with_reducible go_step))
  refine listF_absw ?_
  intro w1 hw1
  have k2 : Cells w1 w.heap.size #[.int .i64 W.rules.slice, .int .i64 W.rules.load, .int .i64 W.rules.dump, .int .i64 W.rules.patience, .int .i64 W.rules.rate, .slice aj W.jobs.length cj, .slice af W.faults.length cf].toList := by rw [hw1]; exact Cells.new rfl
  have HB0 := hid (show Below w.heap.size w w1 by rw [hw1]; exact (by repeat (first | (with_reducible exact Below.refl _ w) | (with_reducible refine bdrewN ?_ _) | (with_reducible refine Below.drew ?_) | (with_reducible refine Below.setCell ?_ (by first | omega | (simp; done) | (simp; omega)) _) | (with_reducible refine Below.alloc ?_ (by first | omega | (simp; done) | (simp; omega)) _))))
  clear hw1
  (refine listF_abs ?_; intro s' hs'; have gl1 := congrFun hs' 1; simp only [updS_some, updS_none, Nat.reduceEqDiff, ↓reduceIte] at gl1; (try rw [sl1] at gl1); have gl2 := congrFun hs' 2; simp only [updS_some, updS_none, Nat.reduceEqDiff, ↓reduceIte] at gl2; (try rw [sl2] at gl2); have gl17 := congrFun hs' 17; simp only [updS_some, updS_none, Nat.reduceEqDiff, ↓reduceIte] at gl17; (try rw [sl17] at gl17); have gl18 := congrFun hs' 18; simp only [updS_some, updS_none, Nat.reduceEqDiff, ↓reduceIte] at gl18; (try rw [sl18] at gl18); clear hs'; (try clear sl1); (try clear sl2); (try clear sl17); (try clear sl18); have sl1 := gl1; clear gl1; have sl2 := gl2; clear gl2; have sl17 := gl17; clear gl17; have sl18 := gl18; clear gl18)
  (refine listF_step rfl (fun K' hK => ?_); unfold opF; go_simp; refine (qDay_any W till aj af cj cf _ (HW.out.at HB0.out)).mono ?_; rintro e w2 ⟨a5, c5, a6, c6, rfl, hl, hq, hb2, _⟩; refine ⟨_, rfl, hK _ _ ?_⟩; clear hK K')
  replace k2 := k2.at hb2
  have HB1 := hid (HB0.out.trans (hb2.mono HB0.out.size) : Below w.heap.size w w2)
  clear hb2 HB0
  have k2_0 := k2.cell 0 rfl
  have k2_1 := k2.cell 1 rfl
  have k2_2 := k2.cell 2 rfl
  have k2_3 := k2.cell 3 rfl
  have k2_4 := k2.cell 4 rfl
  have k2_5 := k2.cell 5 rfl
  have k2_6 := k2.cell 6 rfl
  have k2_s := k2.1
  (refine listF_abs ?_; intro s' hs'; have gl1 := congrFun hs' 1; simp only [updS_some, updS_none, Nat.reduceEqDiff, ↓reduceIte] at gl1; (try rw [sl1] at gl1); have gl2 := congrFun hs' 2; simp only [updS_some, updS_none, Nat.reduceEqDiff, ↓reduceIte] at gl2; (try rw [sl2] at gl2); have gl19 := congrFun hs' 19; simp only [updS_some, updS_none, Nat.reduceEqDiff, ↓reduceIte] at gl19; (try rw [sl19] at gl19); clear hs'; (try clear sl1); (try clear sl2); (try clear sl19); have sl1 := gl1; clear gl1; have sl2 := gl2; clear gl2; have sl19 := gl19; clear gl19)
  repeat (first | ((first | (refine listF_step rfl (fun K' hK => ?_)) | (refine listF_yes rfl rfl (by decide) ?_ (fun K' hK => ?_); (focus (go_simp; done)))); unfold opF; go_simp; (refine hK _ _ ?_); clear hK K') | (refine listF_no (b' := true) rfl rfl (by decide) ?_ ?_ ?_; (focus (go_simp; done)); (focus rfl)) | (refine listF_no (b' := false) rfl rfl (by decide) ?_ ?_ ?_; (focus (go_simp; done)); (focus rfl)) | (refine listF_nu rfl rfl (by decide) ?_ ?_; (focus (go_simp; done))) | (refine listF_nil ?_) | (refine region_F ?_) | (refine cond_F true ?_ ?_; (focus (go_simp; done)); simp only [if_true]) | (refine cond_F false ?_ ?_; (focus (go_simp; done)); simp only [Bool.false_eq_true, if_false]) | (with_reducible go_step))
  refine listF_absw ?_
  intro w3 hw3
  have k6 : Cells w3 w2.heap.size [.int .i64 (day W till).2.now, .slice a6 (day W till).2.jobs.length c6] := by rw [hw3]; exact Cells.new (cs := #[.int .i64 (day W till).2.now, .slice a6 (day W till).2.jobs.length c6]) rfl
  have hbw3 : Below w2.heap.size w2 w3 := by rw [hw3]; exact (by repeat (first | (with_reducible exact Below.refl _ w2) | (with_reducible refine bdrewN ?_ _) | (with_reducible refine Below.drew ?_) | (with_reducible refine Below.setCell ?_ (by first | omega | (simp; done) | (simp; omega)) _) | (with_reducible refine Below.alloc ?_ (by first | omega | (simp; done) | (simp; omega)) _)))
  clear hw3
  clear k2_0 k2_1 k2_2 k2_3 k2_4 k2_5 k2_6 k2_s
  replace k2 := k2.at hbw3
  replace hl := Rd.at hl hbw3
  replace hq := Rd.at hq hbw3
  have HB2 := hid (HB1.out.trans (hbw3.mono HB1.out.size) : Below w.heap.size w w3)
  clear hbw3 HB1
  generalize w2.heap.size = B6 at *
  (refine listF_abs ?_; intro s' hs'; have gl2 := congrFun hs' 2; simp only [updS_some, updS_none, Nat.reduceEqDiff, ↓reduceIte] at gl2; (try rw [sl2] at gl2); have gl5 := congrFun hs' 5; simp only [updS_some, updS_none, Nat.reduceEqDiff, ↓reduceIte] at gl5; (try rw [sl5] at gl5); have gl6 := congrFun hs' 6; simp only [updS_some, updS_none, Nat.reduceEqDiff, ↓reduceIte] at gl6; (try rw [sl6] at gl6); have gl7 := congrFun hs' 7; simp only [updS_some, updS_none, Nat.reduceEqDiff, ↓reduceIte] at gl7; (try rw [sl7] at gl7); have gl24 := congrFun hs' 24; simp only [updS_some, updS_none, Nat.reduceEqDiff, ↓reduceIte] at gl24; (try rw [sl24] at gl24); have gl25 := congrFun hs' 25; simp only [updS_some, updS_none, Nat.reduceEqDiff, ↓reduceIte] at gl25; (try rw [sl25] at gl25); clear hs'; (try clear sl2); (try clear sl5); (try clear sl6); (try clear sl7); (try clear sl24); (try clear sl25); have sl2 := gl2; clear gl2; have sl5 := gl5; clear gl5; have sl6 := gl6; clear gl6; have sl7 := gl7; clear gl7; have sl24 := gl24; clear gl24; have sl25 := gl25; clear gl25)
  (refine listF_step rfl (fun K' hK => ?_); unfold opF; go_simp; refine (qBill_any W till aj af cj cf _ (HW.out.at HB2.out)).mono ?_; rintro e w4 ⟨a8, c8, rfl, hi, hb4⟩; refine ⟨_, rfl, hK _ _ ?_⟩; clear hK K')
  replace k2 := k2.at hb4
  replace k6 := k6.at hb4
  replace hl := Rd.at hl hb4
  replace hq := Rd.at hq hb4
  have HB3 := hid (HB2.out.trans (hb4.mono HB2.out.size) : Below w.heap.size w w4)
  clear hb4 HB2
  (refine listF_abs ?_; intro s' hs'; have gl2 := congrFun hs' 2; simp only [updS_some, updS_none, Nat.reduceEqDiff, ↓reduceIte] at gl2; (try rw [sl2] at gl2); have gl5 := congrFun hs' 5; simp only [updS_some, updS_none, Nat.reduceEqDiff, ↓reduceIte] at gl5; (try rw [sl5] at gl5); have gl6 := congrFun hs' 6; simp only [updS_some, updS_none, Nat.reduceEqDiff, ↓reduceIte] at gl6; (try rw [sl6] at gl6); have gl7 := congrFun hs' 7; simp only [updS_some, updS_none, Nat.reduceEqDiff, ↓reduceIte] at gl7; (try rw [sl7] at gl7); have gl26 := congrFun hs' 26; simp only [updS_some, updS_none, Nat.reduceEqDiff, ↓reduceIte] at gl26; (try rw [sl26] at gl26); clear hs'; (try clear sl2); (try clear sl5); (try clear sl6); (try clear sl7); (try clear sl26); have sl2 := gl2; clear gl2; have sl5 := gl5; clear gl5; have sl6 := gl6; clear gl6; have sl7 := gl7; clear gl7; have sl26 := gl26; clear gl26)
  by_cases hE : dayErr W till = 0
  · have hF : billRes W till = (charges (day W till).2, totals (day W till).1, 0) := by unfold billRes; rw [if_pos hE]
    have hch := day_charges hE
    have hsp := day_spells hE
    have hdk := day_dok hE
    obtain ⟨hK, he, _, _⟩ := day_ok hE
    rw [hF] at hi sl26
    rw [hE] at sl7
    simp only at hi sl26
    have HE := hid hE
    have HK := hid hK
    have Hch := hid hch
    have Hsp := hid hsp.2
    have hsl := hsp.1
    have Hdk := hid hdk
    clear hE hF hch hsp hdk hK he
    generalize day W till = G at *
    obtain ⟨l, q⟩ := G
    simp only at *
    have hjl := Hdk.out.len
    have hjw := HK.out.jl
    have hlq : q.jobs.length ≤ 12 := by omega
    have hcl : (charges q).length = q.jobs.length := by simp [charges]
    have n1 : ((q.jobs.length : Int) != (W.jobs.length : Int)) = false := by rw [hjl]; simp
    have Hjl := hid hjl
    have Hcl := hid hcl
    rw [hcl] at sl26
    clear hjl hcl
    have k2_0 := k2.cell 0 rfl
    have k2_1 := k2.cell 1 rfl
    have k2_2 := k2.cell 2 rfl
    have k2_3 := k2.cell 3 rfl
    have k2_4 := k2.cell 4 rfl
    have k2_5 := k2.cell 5 rfl
    have k2_6 := k2.cell 6 rfl
    have k2_s := k2.1
    have k6_0 := k6.cell 0 rfl
    have k6_1 := k6.cell 1 rfl
    have k6_s := k6.1
    repeat (first | ((first | (refine listF_step rfl (fun K' hK => ?_)) | (refine listF_yes rfl rfl (by decide) ?_ (fun K' hK => ?_); (focus (go_simp; done)))); unfold opF; go_simp; (refine hK _ _ ?_); clear hK K') | (refine listF_no (b' := true) rfl rfl (by decide) ?_ ?_ ?_; (focus (go_simp; done)); (focus rfl)) | (refine listF_no (b' := false) rfl rfl (by decide) ?_ ?_ ?_; (focus (go_simp; done)); (focus rfl)) | (refine listF_nu rfl rfl (by decide) ?_ ?_; (focus (go_simp; done))) | (refine listF_nil ?_) | (refine region_F ?_) | (refine cond_F true ?_ ?_; (focus (go_simp; done)); simp only [if_true]) | (refine cond_F false ?_ ?_; (focus (go_simp; done)); simp only [Bool.false_eq_true, if_false]) | (with_reducible go_step))
    refine wp_absw ?_
    intro w5 hw5
    have k9 : Cells w5 w4.heap.size [.int .i64 (totals l).run, .int .i64 (totals l).lost, .int .i64 (totals l).repair, .int .i64 (totals l).idle] := by rw [hw5]; exact Cells.new (cs := #[.int .i64 (totals l).run, .int .i64 (totals l).lost, .int .i64 (totals l).repair, .int .i64 (totals l).idle]) rfl
    have hbw5 : Below w4.heap.size w4 w5 := by rw [hw5]; exact (by repeat (first | (with_reducible exact Below.refl _ w4) | (with_reducible refine bdrewN ?_ _) | (with_reducible refine Below.drew ?_) | (with_reducible refine Below.setCell ?_ (by first | omega | (simp; done) | (simp; omega)) _) | (with_reducible refine Below.alloc ?_ (by first | omega | (simp; done) | (simp; omega)) _)))
    clear hw5
    clear k2_0 k2_1 k2_2 k2_3 k2_4 k2_5 k2_6 k2_s k6_0 k6_1 k6_s
    replace k2 := k2.at hbw5
    replace k6 := k6.at hbw5
    replace hl := Rd.at hl hbw5
    replace hq := Rd.at hq hbw5
    replace hi := Rd.at hi hbw5
    have HB4 := hid (HB3.out.trans (hbw5.mono HB3.out.size) : Below w.heap.size w w5)
    clear hbw5 HB3 n1
    generalize w4.heap.size = B9 at *
    (refine wp_abs ?_; intro s' hs'; have gl2 := congrFun hs' 2; simp only [updS_some, updS_none, Nat.reduceEqDiff, ↓reduceIte] at gl2; (try rw [sl2] at gl2); have gl5 := congrFun hs' 5; simp only [updS_some, updS_none, Nat.reduceEqDiff, ↓reduceIte] at gl5; (try rw [sl5] at gl5); have gl6 := congrFun hs' 6; simp only [updS_some, updS_none, Nat.reduceEqDiff, ↓reduceIte] at gl6; (try rw [sl6] at gl6); have gl8 := congrFun hs' 8; simp only [updS_some, updS_none, Nat.reduceEqDiff, ↓reduceIte] at gl8; (try rw [sl8] at gl8); have gl9 := congrFun hs' 9; simp only [updS_some, updS_none, Nat.reduceEqDiff, ↓reduceIte] at gl9; (try rw [sl9] at gl9); have gl11 := congrFun hs' 11; simp only [updS_some, updS_none, Nat.reduceEqDiff, ↓reduceIte] at gl11; (try rw [sl11] at gl11); have gl12 := congrFun hs' 12; simp only [updS_some, updS_none, Nat.reduceEqDiff, ↓reduceIte] at gl12; (try rw [sl12] at gl12); clear hs'; (try clear sl2); (try clear sl5); (try clear sl6); (try clear sl8); (try clear sl9); (try clear sl11); (try clear sl12); have sl2 := gl2; clear gl2; have sl5 := gl5; clear gl5; have sl6 := gl6; clear gl6; have sl8 := gl8; clear gl8; have sl9 := gl9; clear gl9; have sl11 := gl11; clear gl11; have sl12 := gl12; clear gl12)
    have hcb : ∀ x ∈ charges q, 0 ≤ x ∧ x ≤ 10000000 := by
      intro x hx
      unfold charges at hx
      obtain ⟨y, hy, rfl⟩ := List.mem_map.1 hx
      obtain ⟨i, hi, rfl⟩ := List.mem_iff_getElem.1 hy
      have h1 := (Hdk.out.st i hi (by have := Hjl.out; omega)).2.2.1
      have h2 := Hdk.out.now1
      omega
    have hsb := fun i => take_sum_bd (by omega) hcb i
    have Hsb := hid hsb
    have Hcb := hid hcb
    clear hcb hsb
    refine loop_F (n := 193) (fun k s wr => ∃ i : Nat, k = q.jobs.length - i ∧ i ≤ q.jobs.length ∧ s 2 = .pointer (some ⟨w.heap.size, 0, none⟩) ∧ s 5 = .slice a5 l.length c5 ∧ s 6 = .pointer (some ⟨B6, 0, none⟩) ∧ s 8 = .slice a8 q.jobs.length c8 ∧ s 9 = .pointer (some ⟨B9, 0, none⟩) ∧ s 11 = .int .i64 ((charges q).take i).sum ∧ s 12 = .int .i64 i ∧ Below w5.heap.size w5 wr) (k0 := q.jobs.length) ⟨0, by omega, by omega, sl2, sl5, sl6, sl8, sl9, sl11, sl12, Below.refl _ _⟩ ?_
    clear sl2 sl5 sl6 sl8 sl9 sl11 sl12
    rintro k s wi ⟨i, rfl, hi', sl2, sl5, sl6, sl8, sl9, sl11, sl12, hBi⟩
    replace k2 := k2.at hBi
    replace k6 := k6.at hBi
    replace k9 := k9.at hBi
    replace hl := Rd.at hl hBi
    replace hq := Rd.at hq hBi
    replace hi := Rd.at hi hBi
    have HBi := hid hBi
    have HBw := hid (HB4.out.trans (hBi.mono HB4.out.size) : Below w.heap.size w wi)
    clear hBi
    by_cases hlt : i < q.jobs.length
    · have hltW : i < W.jobs.length := by have := Hjl.out; omega
      have hltc : i < (charges q).length := by rw [Hcl.out]; exact hlt
      have hJ := (HW.out.at HBw.out).jobs
      obtain ⟨x1, o1, rfl, hx1, d1, d2, d3, d4, d5⟩ := RdSts.ne hq hlt
      obtain ⟨x2, o2, rfl, hx2, e1, e2, e3, e4⟩ := RdJobs.ne hJ hltW
      obtain ⟨x3, o3, rfl, hx3, g1⟩ := RdInts.ne hi hltc
      have hci : (charges q)[i] = q.jobs[i].charge := by simp [charges]
      rw [hci] at g1
      have hsn := sum_snoc (charges q) hltc
      rw [hci] at hsn
      have hcb := Hcb.out q.jobs[i].charge (by rw [← hci]; exact List.getElem_mem hltc)
      have hs0 := Hsb.out i
      rw [Hcl.out] at hs0
      have hws : IntKind.i64.wrap (((charges q).take i).sum + q.jobs[i].charge) = ((charges q).take i).sum + q.jobs[i].charge := IntWalk.i64_in _ (by omega)
      have hwi : IntKind.i64.wrap ((i : Int) + 1) = (i : Int) + 1 := IntWalk.i64_in _ (by omega)
      have hji := Hch.out.job i hlt
      rw [Qu.st_eq hlt] at hji
      unfold JobI at hji
      rw [Work.job_eq hltW] at hji
      have hnum := HK.out.job i hltW
      have Hsn := hid hsn
      clear hci hsn hcb hs0
      generalize q.jobs[i] = x at *
      generalize W.jobs[i] = j at *
      generalize ((charges q).take i).sum = S at *
      have k2_0 := k2.cell 0 rfl
      have k2_1 := k2.cell 1 rfl
      have k2_2 := k2.cell 2 rfl
      have k2_3 := k2.cell 3 rfl
      have k2_4 := k2.cell 4 rfl
      have k2_5 := k2.cell 5 rfl
      have k2_6 := k2.cell 6 rfl
      have k2_s := k2.1
      have k6_0 := k6.cell 0 rfl
      have k6_1 := k6.cell 1 rfl
      have k6_s := k6.1
      by_cases hwy : x.why = 0
      · have r1 : (x.why == 0) = true := by simp [hwy]
        repeat (first | ((first | (refine listF_step rfl (fun K' hK => ?_)) | (refine listF_yes rfl rfl (by decide) ?_ (fun K' hK => ?_); (focus (go_simp; done)))); unfold opF; go_simp; (refine hK _ _ ?_); clear hK K') | (refine listF_no (b' := true) rfl rfl (by decide) ?_ ?_ ?_; (focus (go_simp; done)); (focus rfl)) | (refine listF_no (b' := false) rfl rfl (by decide) ?_ ?_ ?_; (focus (go_simp; done)); (focus rfl)) | (refine listF_nu rfl rfl (by decide) ?_ ?_; (focus (go_simp; done))) | (refine listF_nil ?_) | (refine region_F ?_) | (refine cond_F true ?_ ?_; (focus (go_simp; done)); simp only [if_true]) | (refine cond_F false ?_ ?_; (focus (go_simp; done)); simp only [Bool.false_eq_true, if_false]) | (with_reducible go_step))
        refine ⟨_, _, rfl, ?_, i + 1, rfl, by omega, (by first | (go_simp; done) | exact sl2 | (simp only [updS_some, updS_none, Nat.reduceEqDiff, ↓reduceIte]; exact sl2)), (by first | (go_simp; done) | exact sl5 | (simp only [updS_some, updS_none, Nat.reduceEqDiff, ↓reduceIte]; exact sl5)), (by first | (go_simp; done) | exact sl6 | (simp only [updS_some, updS_none, Nat.reduceEqDiff, ↓reduceIte]; exact sl6)), (by first | (go_simp; done) | exact sl8 | (simp only [updS_some, updS_none, Nat.reduceEqDiff, ↓reduceIte]; exact sl8)), (by first | (go_simp; done) | exact sl9 | (simp only [updS_some, updS_none, Nat.reduceEqDiff, ↓reduceIte]; exact sl9)), ?_, by go_simp, HBi.out⟩
        · omega
        · rw [Hsn.out]; go_simp
      · have r1 : (x.why == 0) = false := by simp [hwy]
        have hjj := hid (hji.2 hwy)
        clear hji
        have hq0 : quoteErr W.rules j = 0 := by simp [quoteErr, HK.out.rules, hnum]
        repeat (first | ((first | (refine listF_step rfl (fun K' hK => ?_)) | (refine listF_yes rfl rfl (by decide) ?_ (fun K' hK => ?_); (focus (go_simp; done)))); unfold opF; go_simp; (refine hK _ _ ?_); clear hK K') | (refine listF_no (b' := true) rfl rfl (by decide) ?_ ?_ ?_; (focus (go_simp; done)); (focus rfl)) | (refine listF_no (b' := false) rfl rfl (by decide) ?_ ?_ ?_; (focus (go_simp; done)); (focus rfl)) | (refine listF_nu rfl rfl (by decide) ?_ ?_; (focus (go_simp; done))) | (refine listF_nil ?_) | (refine region_F ?_) | (refine cond_F true ?_ ?_; (focus (go_simp; done)); simp only [if_true]) | (refine cond_F false ?_ ?_; (focus (go_simp; done)); simp only [Bool.false_eq_true, if_false]) | (with_reducible go_step))
        have HQ := hid (show ∀ wq, Below wi.heap.size wi wq → Calls Try.prog 30 #[.agg #[.int .i64 W.rules.slice, .int .i64 W.rules.load, .int .i64 W.rules.dump, .int .i64 W.rules.patience, .int .i64 W.rules.rate], .agg #[.string j.name, .int .i64 j.arrive, .int .i64 j.claim, .int .i64 j.needs]] wq fun e w'' => e = .returned (.tuple #[.int .i64 (quote W.rules j), .int .i64 0]) ∧ Below wi.heap.size wi w'' from fun wq hwq =>
          (qquote_any W.rules j wq).mono fun _ _ ⟨h1, h2⟩ => ⟨by rw [h1, hq0], hwq.trans (h2.mono hwq.size)⟩)
        clear hq0
        refine regionQ_F (Below wi.heap.size wi) (by kernel_rfl) (by kernel_rfl) (Below.refl _ _).drew ?_
        repeat (first | (refine listQ_step (v := ?_) rfl ?_ ?_; rotate_left; (focus (intro wq hwq; obtain ⟨hcq, hfq⟩ := bcell hwq; go_simp; (first | rfl | (exact ⟨rfl, rfl⟩) | (exact HQ.out _ hwq))))) | (refine listQ_yes (v := ?_) rfl rfl (by decide) ?_ ?_ ?_; rotate_left; (focus (go_simp; done)); (focus (intro wq hwq; obtain ⟨hcq, hfq⟩ := bcell hwq; go_simp; (first | rfl | (exact ⟨rfl, rfl⟩) | (exact HQ.out _ hwq))))) | (refine listQ_no (b' := true) rfl rfl (by decide) ?_ ?_ ?_; (focus (go_simp; done)); (focus rfl)) | (refine listQ_no (b' := false) rfl rfl (by decide) ?_ ?_ ?_; (focus (go_simp; done)); (focus rfl)) | (refine listQ_nu rfl rfl (by decide) ?_ ?_; (focus (go_simp; done))) | (refine listQ_nil ?_))
        intro w6 hw6
        have hs6 := hw6.size
        have f1 := (hw6.cell (p := ⟨x1, _, none⟩) hx1).trans d1
        have f4 := (hw6.cell (p := ⟨x1, _, none⟩) hx1).trans d4
        have j1 := (hw6.cell (p := ⟨x2, _, none⟩) hx2).trans e1
        have j2 := (hw6.cell (p := ⟨x2, _, none⟩) hx2).trans e2
        have j3 := (hw6.cell (p := ⟨x2, _, none⟩) hx2).trans e3
        have j4 := (hw6.cell (p := ⟨x2, _, none⟩) hx2).trans e4
        have i1 := (hw6.cell (p := ⟨x3, _, none⟩) hx3).trans g1
        have y1 : x1 < w6.heap.size := by omega
        have y2 : x2 < w6.heap.size := by omega
        have y3 : x3 < w6.heap.size := by omega
        clear k2_0 k2_1 k2_2 k2_3 k2_4 k2_5 k2_6 k2_s k6_0 k6_1 k6_s
        clear d1 d2 d3 d4 d5 e1 e2 e3 e4 g1 hx1 hx2 hx3 HQ r1
        replace k2 := k2.at hw6
        replace k6 := k6.at hw6
        have HB6 := hid (HBi.out.trans (hw6.mono HBi.out.size) : Below w5.heap.size w5 w6)
        clear hw6 hq hi hJ
        have k2_0 := k2.cell 0 rfl
        have k2_1 := k2.cell 1 rfl
        have k2_2 := k2.cell 2 rfl
        have k2_3 := k2.cell 3 rfl
        have k2_4 := k2.cell 4 rfl
        have k2_5 := k2.cell 5 rfl
        have k2_6 := k2.cell 6 rfl
        have k2_s := k2.1
        have k6_0 := k6.cell 0 rfl
        have k6_1 := k6.cell 1 rfl
        have k6_s := k6.1
        repeat (first | ((first | (refine listF_step rfl (fun K' hK => ?_)) | (refine listF_yes rfl rfl (by decide) ?_ (fun K' hK => ?_); (focus (go_simp; done)))); unfold opF; go_simp; (refine hK _ _ ?_); clear hK K') | (refine listF_no (b' := true) rfl rfl (by decide) ?_ ?_ ?_; (focus (go_simp; done)); (focus rfl)) | (refine listF_no (b' := false) rfl rfl (by decide) ?_ ?_ ?_; (focus (go_simp; done)); (focus rfl)) | (refine listF_nu rfl rfl (by decide) ?_ ?_; (focus (go_simp; done))) | (refine listF_nil ?_) | (refine region_F ?_) | (refine cond_F true ?_ ?_; (focus (go_simp; done)); simp only [if_true]) | (refine cond_F false ?_ ?_; (focus (go_simp; done)); simp only [Bool.false_eq_true, if_false]) | (with_reducible go_step))
        repeat (first | (refine wp_seq_k (fun K' hK' => ?_)) | (refine wp_block ?_))
        refine cut_F (fun s wq => s 2 = .pointer (some ⟨w.heap.size, 0, none⟩) ∧ s 5 = .slice a5 l.length c5 ∧ s 6 = .pointer (some ⟨B6, 0, none⟩) ∧ s 8 = .slice (some ⟨x3, o3, none⟩) q.jobs.length c8 ∧ s 9 = .pointer (some ⟨B9, 0, none⟩) ∧ s 11 = .int .i64 (S + x.charge) ∧ s 12 = .int .i64 i ∧ s 144 = .bool false ∧ Below w6.heap.size w6 wq) ?_ ?_
        · have HR := hid (show ∀ wq, Below w6.heap.size w6 wq → Calls Try.prog 39 #[.agg #[.string j.name, .int .i64 j.arrive, .int .i64 j.claim, .int .i64 j.needs]] wq fun e w'' => e = .returned (.int .i64 j.fin) ∧ Below w6.heap.size w6 w'' from fun wq hwq =>
            (rend_any j.name j.arrive j.claim j.needs wq).mono fun _ _ ⟨h1, h2⟩ => ⟨h1, by rw [← h2]; exact hwq.trans ((Below.refl _ _).alloc hwq.size _)⟩)
          obtain ⟨p1, p2, p3⟩ := hjj.out
          have n3 : (x.charge != quote W.rules j) = false := by simp [p1]
          have n4 : (x.progress != j.fin) = false := by simp [p2]
          have hc : ((x.why == 1) = true ∧ decide (j.needs ≤ j.claim) = true) ∨ ((x.why == 1) = false ∧ decide (j.needs ≤ j.claim) = false) := by
            by_cases h1 : x.why = 1
            · exact .inl ⟨by simp [h1], decide_eq_true (p3.1 h1)⟩
            · exact .inr ⟨by simp [h1], decide_eq_false (fun h => h1 (p3.2 h))⟩
          clear p1 p2 p3 hjj
          rcases hc with ⟨r2, r3⟩ | ⟨r2, r3⟩
          all_goals refine regionQ_F (Below w6.heap.size w6) (by kernel_rfl) (by kernel_rfl) (Below.refl _ _).drew ?_
          all_goals repeat (first | (refine listQ_step (v := ?_) rfl ?_ ?_; rotate_left; (focus (intro wq hwq; obtain ⟨hcq, hfq⟩ := bcell hwq; go_simp; (first | rfl | (exact ⟨rfl, rfl⟩) | (exact HR.out _ hwq))))) | (refine listQ_yes (v := ?_) rfl rfl (by decide) ?_ ?_ ?_; rotate_left; (focus (go_simp; done)); (focus (intro wq hwq; obtain ⟨hcq, hfq⟩ := bcell hwq; go_simp; (first | rfl | (exact ⟨rfl, rfl⟩) | (exact HR.out _ hwq))))) | (refine listQ_no (b' := true) rfl rfl (by decide) ?_ ?_ ?_; (focus (go_simp; done)); (focus rfl)) | (refine listQ_no (b' := false) rfl rfl (by decide) ?_ ?_ ?_; (focus (go_simp; done)); (focus rfl)) | (refine listQ_nu rfl rfl (by decide) ?_ ?_; (focus (go_simp; done))) | (refine listQ_nil ?_))
          all_goals intro w8 hw8
          all_goals exact ⟨rfl, _, rfl, (by first | (go_simp; done) | exact sl2 | (simp only [updS_some, updS_none, Nat.reduceEqDiff, ↓reduceIte]; exact sl2)), (by first | (go_simp; done) | exact sl5 | (simp only [updS_some, updS_none, Nat.reduceEqDiff, ↓reduceIte]; exact sl5)), (by first | (go_simp; done) | exact sl6 | (simp only [updS_some, updS_none, Nat.reduceEqDiff, ↓reduceIte]; exact sl6)), (by first | (go_simp; done) | exact sl8 | (simp only [updS_some, updS_none, Nat.reduceEqDiff, ↓reduceIte]; exact sl8)), (by first | (go_simp; done) | exact sl9 | (simp only [updS_some, updS_none, Nat.reduceEqDiff, ↓reduceIte]; exact sl9)), by go_simp, (by first | (go_simp; done) | exact sl12 | (simp only [updS_some, updS_none, Nat.reduceEqDiff, ↓reduceIte]; exact sl12)), by go_simp, hw8⟩
        clear sl2 sl5 sl6 sl8 sl9 sl11 sl12
        rintro s w8 ⟨sl2, sl5, sl6, sl8, sl9, sl11, sl12, sl144, hw8⟩
        have HB8 := hid (HB6.out.trans (hw8.mono HB6.out.size) : Below w5.heap.size w5 w8)
        clear hw8
        repeat (first | ((first | (refine listF_step rfl (fun K' hK => ?_)) | (refine listF_yes rfl rfl (by decide) ?_ (fun K' hK => ?_); (focus (go_simp; done)))); unfold opF; go_simp; (refine hK _ _ ?_); clear hK K') | (refine listF_no (b' := true) rfl rfl (by decide) ?_ ?_ ?_; (focus (go_simp; done)); (focus rfl)) | (refine listF_no (b' := false) rfl rfl (by decide) ?_ ?_ ?_; (focus (go_simp; done)); (focus rfl)) | (refine listF_nu rfl rfl (by decide) ?_ ?_; (focus (go_simp; done))) | (refine listF_nil ?_) | (refine region_F ?_) | (refine cond_F true ?_ ?_; (focus (go_simp; done)); simp only [if_true]) | (refine cond_F false ?_ ?_; (focus (go_simp; done)); simp only [Bool.false_eq_true, if_false]) | (with_reducible go_step))
        refine ⟨_, _, rfl, ?_, i + 1, rfl, by omega, (by first | (go_simp; done) | exact sl2 | (simp only [updS_some, updS_none, Nat.reduceEqDiff, ↓reduceIte]; exact sl2)), (by first | (go_simp; done) | exact sl5 | (simp only [updS_some, updS_none, Nat.reduceEqDiff, ↓reduceIte]; exact sl5)), (by first | (go_simp; done) | exact sl6 | (simp only [updS_some, updS_none, Nat.reduceEqDiff, ↓reduceIte]; exact sl6)), (by first | (go_simp; done) | exact sl8 | (simp only [updS_some, updS_none, Nat.reduceEqDiff, ↓reduceIte]; exact sl8)), (by first | (go_simp; done) | exact sl9 | (simp only [updS_some, updS_none, Nat.reduceEqDiff, ↓reduceIte]; exact sl9)), ?_, by go_simp, HB8.out⟩
        · omega
        · rw [Hsn.out]; go_simp
    · obtain rfl : i = q.jobs.length := by omega
      rw [List.take_of_length_le (by rw [Hcl.out]; exact Nat.le_refl _)] at sl11
      have hsum := Hch.out.sum
      have hall := Hch.out.all
      have hlast := Hch.out.last
      have hnw0 := Hdk.out.now0
      have hnw1 := Hdk.out.now1
      have hsb := Hsb.out q.jobs.length
      rw [List.take_of_length_le (by rw [Hcl.out]; exact Nat.le_refl _), Hcl.out] at hsb
      obtain ⟨t1, t2, t3, t4⟩ := totals_nn l Tot.zero (fun s hs => (Hsp.out s hs).2.2.1) ⟨by decide, by decide, by decide, by decide⟩
      change 0 ≤ (totals l).run at t1
      change 0 ≤ (totals l).lost at t2
      change 0 ≤ (totals l).repair at t3
      change 0 ≤ (totals l).idle at t4
      have n5 : IntKind.i64.wrap ((totals l).run * W.rules.rate) = (totals l).run * W.rules.rate := IntWalk.i64_in _ (by rw [← hsum]; omega)
      have n6 : ((charges q).sum == (totals l).run * W.rules.rate) = true := by rw [hsum]; simp
      have n7 : IntKind.i64.wrap ((totals l).run + (totals l).lost) = (totals l).run + (totals l).lost := IntWalk.i64_in _ (by omega)
      have n8 : IntKind.i64.wrap ((totals l).run + (totals l).lost + (totals l).repair) = (totals l).run + (totals l).lost + (totals l).repair := IntWalk.i64_in _ (by omega)
      have n9 : IntKind.i64.wrap ((totals l).run + (totals l).lost + (totals l).repair + (totals l).idle) = (totals l).run + (totals l).lost + (totals l).repair + (totals l).idle := IntWalk.i64_in _ (by omega)
      have n10 : ((totals l).run + (totals l).lost + (totals l).repair + (totals l).idle == q.now) = true := by rw [hall]; simp
      have n11 : (q.now == q.now) = true := by simp
      have Hsum := hid hsum
      have Hall := hid hall
      have HT := hid (show ∀ wq, Below wi.heap.size wi wq → Calls Try.prog 40 #[.slice a5 l.length c5] wq fun e w'' => e = .returned (.agg #[.int .i64 (totals l).run, .int .i64 (totals l).lost, .int .i64 (totals l).repair, .int .i64 (totals l).idle]) ∧ Below wi.heap.size wi w'' from fun wq hwq =>
        (rtotals_any a5 c5 l wq (Rd.at hl hwq) (by omega) (fun i hi => by have := Hsp.out l[i] (List.getElem_mem hi); omega)).mono fun _ _ ⟨h1, h2⟩ => ⟨h1, hwq.trans (h2.mono hwq.size)⟩)
      have HA := hid (show ∀ wq, Below wi.heap.size wi wq → Calls Try.prog 21 #[] wq fun e w'' => e = .returned (.bool true) ∧ Below wi.heap.size wi w'' from fun wq hwq =>
        (awake_any wq).mono fun _ _ ⟨h1, h2⟩ => ⟨h1, hwq.trans (h2.mono hwq.size)⟩)
      clear hsum hall hsb t1 t2 t3 t4
      have k2_0 := k2.cell 0 rfl
      have k2_1 := k2.cell 1 rfl
      have k2_2 := k2.cell 2 rfl
      have k2_3 := k2.cell 3 rfl
      have k2_4 := k2.cell 4 rfl
      have k2_5 := k2.cell 5 rfl
      have k2_6 := k2.cell 6 rfl
      have k2_s := k2.1
      have k6_0 := k6.cell 0 rfl
      have k6_1 := k6.cell 1 rfl
      have k6_s := k6.1
      have k9_0 := k9.cell 0 rfl
      have k9_1 := k9.cell 1 rfl
      have k9_2 := k9.cell 2 rfl
      have k9_3 := k9.cell 3 rfl
      have k9_s := k9.1
      by_cases hl0 : 0 < l.length
      · obtain ⟨m, hm⟩ : ∃ m, l.length = m + 1 := ⟨l.length - 1, by omega⟩
        obtain ⟨x1, o1, rfl, hx1, d1, d2, d3, d4⟩ := RdSpells.ne hl (show m < l.length by omega)
        have hnow : l[m].until0 = q.now := by
          rw [hlast, List.getLast?_eq_getElem?, List.getElem?_eq_getElem (show l.length - 1 < l.length by omega)]
          simp only [hm, Nat.add_sub_cancel]
        rw [hnow] at d4
        have hwm : IntKind.i64.wrap (m : Int) = m := IntWalk.i64_in _ (by omega)
        have hm1 : (m : Int) < (m : Int) + 1 := by omega
        rw [hm] at HT sl5
        clear hnow hlast d1 d2 d3
        clear hm hl0
        repeat (first | ((first | (refine listF_step rfl (fun K' hK => ?_)) | (refine listF_yes rfl rfl (by decide) ?_ (fun K' hK => ?_); (focus (go_simp; done)))); unfold opF; go_simp; (refine hK _ _ ?_); clear hK K') | (refine listF_no (b' := true) rfl rfl (by decide) ?_ ?_ ?_; (focus (go_simp; done)); (focus rfl)) | (refine listF_no (b' := false) rfl rfl (by decide) ?_ ?_ ?_; (focus (go_simp; done)); (focus rfl)) | (refine listF_nu rfl rfl (by decide) ?_ ?_; (focus (go_simp; done))) | (refine listF_nil ?_) | (refine region_F ?_) | (refine cond_F true ?_ ?_; (focus (go_simp; done)); simp only [if_true]) | (refine cond_F false ?_ ?_; (focus (go_simp; done)); simp only [Bool.false_eq_true, if_false]) | (with_reducible go_step))
        refine regionQ_F (Below wi.heap.size wi) (by kernel_rfl) (by kernel_rfl) (Below.refl _ _).drew ?_
        iterate 3 (first | (refine listQ_step (v := ?_) rfl ?_ ?_; rotate_left; (focus (intro wq hwq; obtain ⟨hcq, hfq⟩ := bcell hwq; go_simp; (first | rfl | (exact ⟨rfl, rfl⟩) | ( exact HT.out _ hwq))))) | (refine listQ_yes (v := ?_) rfl rfl (by decide) ?_ ?_ ?_; rotate_left; (focus (go_simp; done)); (focus (intro wq hwq; obtain ⟨hcq, hfq⟩ := bcell hwq; go_simp; (first | rfl | (exact ⟨rfl, rfl⟩) | ( exact HT.out _ hwq))))) | (refine listQ_no (b' := true) rfl rfl (by decide) ?_ ?_ ?_; (focus (go_simp; done)); (focus rfl)) | (refine listQ_no (b' := false) rfl rfl (by decide) ?_ ?_ ?_; (focus (go_simp; done)); (focus rfl)) | (refine listQ_nu rfl rfl (by decide) ?_ ?_; (focus (go_simp; done))) | (refine listQ_nil ?_))
        repeat (first | (refine listQ_step (v := ?_) rfl ?_ ?_; rotate_left; (focus (intro wq hwq; obtain ⟨hcq, hfq⟩ := bcell hwq; go_simp; (first | rfl | (exact ⟨rfl, rfl⟩) | (exact HA.out _ hwq))))) | (refine listQ_yes (v := ?_) rfl rfl (by decide) ?_ ?_ ?_; rotate_left; (focus (go_simp; done)); (focus (intro wq hwq; obtain ⟨hcq, hfq⟩ := bcell hwq; go_simp; (first | rfl | (exact ⟨rfl, rfl⟩) | (exact HA.out _ hwq))))) | (refine listQ_no (b' := true) rfl rfl (by decide) ?_ ?_ ?_; (focus (go_simp; done)); (focus rfl)) | (refine listQ_no (b' := false) rfl rfl (by decide) ?_ ?_ ?_; (focus (go_simp; done)); (focus rfl)) | (refine listQ_nu rfl rfl (by decide) ?_ ?_; (focus (go_simp; done))) | (refine listQ_nil ?_))
        intro w7 hw7
        repeat (first | ((first | (refine listF_step rfl (fun K' hK => ?_)) | (refine listF_yes rfl rfl (by decide) ?_ (fun K' hK => ?_); (focus (go_simp; done)))); unfold opF; go_simp; (refine hK _ _ ?_); clear hK K') | (refine listF_no (b' := true) rfl rfl (by decide) ?_ ?_ ?_; (focus (go_simp; done)); (focus rfl)) | (refine listF_no (b' := false) rfl rfl (by decide) ?_ ?_ ?_; (focus (go_simp; done)); (focus rfl)) | (refine listF_nu rfl rfl (by decide) ?_ ?_; (focus (go_simp; done))) | (refine listF_nil ?_) | (refine region_F ?_) | (refine cond_F true ?_ ?_; (focus (go_simp; done)); simp only [if_true]) | (refine cond_F false ?_ ?_; (focus (go_simp; done)); simp only [Bool.false_eq_true, if_false]) | (with_reducible go_step))
        exact ret_F (.bool true) (res1_F Try.results10 (by decide) (by go_simp)) ⟨rfl, HBw.out.trans (hw7.mono HBw.out.size)⟩
      · have hl1 : l.length = 0 := by omega
        have hnow : q.now = 0 := by rw [hlast, List.length_eq_zero_iff.1 hl1]; rfl
        rw [hl1] at HT sl5
        rw [hnow] at n10 n11 k6_0
        clear hnow hlast hl1 hl0
        repeat (first | ((first | (refine listF_step rfl (fun K' hK => ?_)) | (refine listF_yes rfl rfl (by decide) ?_ (fun K' hK => ?_); (focus (go_simp; done)))); unfold opF; go_simp; (refine hK _ _ ?_); clear hK K') | (refine listF_no (b' := true) rfl rfl (by decide) ?_ ?_ ?_; (focus (go_simp; done)); (focus rfl)) | (refine listF_no (b' := false) rfl rfl (by decide) ?_ ?_ ?_; (focus (go_simp; done)); (focus rfl)) | (refine listF_nu rfl rfl (by decide) ?_ ?_; (focus (go_simp; done))) | (refine listF_nil ?_) | (refine region_F ?_) | (refine cond_F true ?_ ?_; (focus (go_simp; done)); simp only [if_true]) | (refine cond_F false ?_ ?_; (focus (go_simp; done)); simp only [Bool.false_eq_true, if_false]) | (with_reducible go_step))
        refine regionQ_F (Below wi.heap.size wi) (by kernel_rfl) (by kernel_rfl) (Below.refl _ _).drew ?_
        iterate 3 (first | (refine listQ_step (v := ?_) rfl ?_ ?_; rotate_left; (focus (intro wq hwq; obtain ⟨hcq, hfq⟩ := bcell hwq; go_simp; (first | rfl | (exact ⟨rfl, rfl⟩) | ( exact HT.out _ hwq))))) | (refine listQ_yes (v := ?_) rfl rfl (by decide) ?_ ?_ ?_; rotate_left; (focus (go_simp; done)); (focus (intro wq hwq; obtain ⟨hcq, hfq⟩ := bcell hwq; go_simp; (first | rfl | (exact ⟨rfl, rfl⟩) | ( exact HT.out _ hwq))))) | (refine listQ_no (b' := true) rfl rfl (by decide) ?_ ?_ ?_; (focus (go_simp; done)); (focus rfl)) | (refine listQ_no (b' := false) rfl rfl (by decide) ?_ ?_ ?_; (focus (go_simp; done)); (focus rfl)) | (refine listQ_nu rfl rfl (by decide) ?_ ?_; (focus (go_simp; done))) | (refine listQ_nil ?_))
        repeat (first | (refine listQ_step (v := ?_) rfl ?_ ?_; rotate_left; (focus (intro wq hwq; obtain ⟨hcq, hfq⟩ := bcell hwq; go_simp; (first | rfl | (exact ⟨rfl, rfl⟩) | (exact HA.out _ hwq))))) | (refine listQ_yes (v := ?_) rfl rfl (by decide) ?_ ?_ ?_; rotate_left; (focus (go_simp; done)); (focus (intro wq hwq; obtain ⟨hcq, hfq⟩ := bcell hwq; go_simp; (first | rfl | (exact ⟨rfl, rfl⟩) | (exact HA.out _ hwq))))) | (refine listQ_no (b' := true) rfl rfl (by decide) ?_ ?_ ?_; (focus (go_simp; done)); (focus rfl)) | (refine listQ_no (b' := false) rfl rfl (by decide) ?_ ?_ ?_; (focus (go_simp; done)); (focus rfl)) | (refine listQ_nu rfl rfl (by decide) ?_ ?_; (focus (go_simp; done))) | (refine listQ_nil ?_))
        intro w7 hw7
        repeat (first | ((first | (refine listF_step rfl (fun K' hK => ?_)) | (refine listF_yes rfl rfl (by decide) ?_ (fun K' hK => ?_); (focus (go_simp; done)))); unfold opF; go_simp; (refine hK _ _ ?_); clear hK K') | (refine listF_no (b' := true) rfl rfl (by decide) ?_ ?_ ?_; (focus (go_simp; done)); (focus rfl)) | (refine listF_no (b' := false) rfl rfl (by decide) ?_ ?_ ?_; (focus (go_simp; done)); (focus rfl)) | (refine listF_nu rfl rfl (by decide) ?_ ?_; (focus (go_simp; done))) | (refine listF_nil ?_) | (refine region_F ?_) | (refine cond_F true ?_ ?_; (focus (go_simp; done)); simp only [if_true]) | (refine cond_F false ?_ ?_; (focus (go_simp; done)); simp only [Bool.false_eq_true, if_false]) | (with_reducible go_step))
        exact ret_F (.bool true) (res1_F Try.results10 (by decide) (by go_simp)) ⟨rfl, HBw.out.trans (hw7.mono HBw.out.size)⟩
  · have hF : billRes W till = ([], Tot.zero, dayErr W till) := by unfold billRes; rw [if_neg hE]
    have hG : day W till = ([], Qu.zero) := by unfold day; rw [if_neg hE]
    rw [hF] at sl26
    have hE' : (dayErr W till != 0) = true := by simp [hE]
    have hEE : (dayErr W till == dayErr W till) = true := by simp
    clear hF hG hE hi
    simp only [List.length_nil, Tot.zero] at sl26
    repeat (first | ((first | (refine listF_step rfl (fun K' hK => ?_)) | (refine listF_yes rfl rfl (by decide) ?_ (fun K' hK => ?_); (focus (go_simp; done)))); unfold opF; go_simp; (refine hK _ _ ?_); clear hK K') | (refine listF_no (b' := true) rfl rfl (by decide) ?_ ?_ ?_; (focus (go_simp; done)); (focus rfl)) | (refine listF_no (b' := false) rfl rfl (by decide) ?_ ?_ ?_; (focus (go_simp; done)); (focus rfl)) | (refine listF_nu rfl rfl (by decide) ?_ ?_; (focus (go_simp; done))) | (refine listF_nil ?_) | (refine region_F ?_) | (refine cond_F true ?_ ?_; (focus (go_simp; done)); simp only [if_true]) | (refine cond_F false ?_ ?_; (focus (go_simp; done)); simp only [Bool.false_eq_true, if_false]) | (with_reducible go_step))
    (refine listF_yes rfl rfl (by decide) ?_ (fun K' hK => ?_); (focus (go_simp; done)); unfold opF; go_simp; refine (awake_any _).mono ?_; rintro e w9 ⟨rfl, hb9⟩; refine ⟨_, rfl, hK _ _ ?_⟩; clear hK K')
    have hsx := HB3.out.size
    have HBx := hid (Below.trans ((by repeat (first | (with_reducible exact HB3.out) | (with_reducible refine bdrewN ?_ _) | (with_reducible refine Below.drew ?_) | (with_reducible refine Below.setCell ?_ (by first | omega | (simp; done) | (simp; omega)) _) | (with_reducible refine Below.alloc ?_ (by first | omega | (simp; done) | (simp; omega)) _)))) (hb9.mono (by have := HB3.out.size; simp; omega)) : Below w.heap.size w w9)
    repeat (first | ((first | (refine listF_step rfl (fun K' hK => ?_)) | (refine listF_yes rfl rfl (by decide) ?_ (fun K' hK => ?_); (focus (go_simp; done)))); unfold opF; go_simp; (refine hK _ _ ?_); clear hK K') | (refine listF_no (b' := true) rfl rfl (by decide) ?_ ?_ ?_; (focus (go_simp; done)); (focus rfl)) | (refine listF_no (b' := false) rfl rfl (by decide) ?_ ?_ ?_; (focus (go_simp; done)); (focus rfl)) | (refine listF_nu rfl rfl (by decide) ?_ ?_; (focus (go_simp; done))) | (refine listF_nil ?_) | (refine region_F ?_) | (refine cond_F true ?_ ?_; (focus (go_simp; done)); simp only [if_true]) | (refine cond_F false ?_ ?_; (focus (go_simp; done)); simp only [Bool.false_eq_true, if_false]) | (with_reducible go_step))
    exact ret_F (.bool true) (res1_F Try.results10 (by decide) (by go_simp)) ⟨rfl, HBx.out⟩

end Go.Proofs.Ytbjgebbfachgfaa
