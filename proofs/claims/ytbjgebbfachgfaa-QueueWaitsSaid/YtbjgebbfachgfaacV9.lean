/- QueueWaits: its walk. -/
import Derived.Test.YtbjgebbfachgfaacLP
set_option linter.unusedVariables false
set_option linter.unusedSimpArgs false
set_option linter.unusedSectionVars false
set_option linter.all false
namespace Go.Proofs.Ytbjgebbfachgfaa
open Go.RowKit

theorem sum_upto {α : Type} {g : α → Int} {c : Int} : ∀ {l : List α}, (∀ f ∈ l, 0 ≤ g f ∧ g f ≤ c) → 0 ≤ (l.map g).sum ∧ (l.map g).sum ≤ l.length * c
  | [], _ => by simp
  | x :: l, h => by
    have h1 := h x (by simp)
    have h2 := sum_upto (l := l) (fun f hf => h f (by simp [hf]))
    simp only [List.map_cons, List.sum_cons, List.length_cons]
    have : ((l.length + 1 : Nat) : Int) * c = l.length * c + c := by rw [Int.natCast_add, Int.add_mul]; simp
    omega
theorem repairs_bd {W : Work} (hK : WOk W) : 0 ≤ repairsOf W ∧ repairsOf W ≤ 1000000 := by
  have h1 := sum_upto (g := Fault.rep) (c := 5000) (l := W.faults) (fun f hf => by
    obtain ⟨i, hi, rfl⟩ := List.mem_iff_getElem.1 hf
    have := hK.fb hi; omega)
  have hr := hK.rb
  have hf := hK.fl
  have h2 : (W.faults.length : Int) * W.rules.turn ≤ 20 * 660 := Int.mul_le_mul (by omega) (by unfold Rules.turn; omega) (turn_nn hK) (by omega)
  have h3 : 0 ≤ (W.faults.length : Int) * W.rules.turn := Int.mul_nonneg (by omega) (turn_nn hK)
  have h4 : (W.faults.length : Int) * 5000 ≤ 20 * 5000 := by omega
  unfold repairsOf
  omega
theorem longest_ok {W : Work} (hK : WOk W) (hn : 0 < W.jobs.length) : longest W.rules W.jobs.length = W.rules.patience + W.jobs.length * W.rules.turn ∧ longErr W.rules W.jobs.length = 0 ∧ 0 ≤ W.rules.patience + W.jobs.length * W.rules.turn ∧ W.rules.patience + W.jobs.length * W.rules.turn ≤ 100000 := by
  have hj := hK.jl
  have hr := hK.rb
  have hin : inb (W.jobs.length : Int) 1 12 = true := by rw [inb_iff]; omega
  have h2 : (W.jobs.length : Int) * W.rules.turn ≤ 12 * 660 := Int.mul_le_mul (by omega) (by unfold Rules.turn; omega) (turn_nn hK) (by omega)
  have h3 : 0 ≤ (W.jobs.length : Int) * W.rules.turn := Int.mul_nonneg (by omega) (turn_nn hK)
  refine ⟨by simp [longest, hK.rules, hin], by simp [longErr, hK.rules, hin], ?_, ?_⟩ <;> omega

set_option maxRecDepth 100000 in
set_option maxHeartbeats 8000000 in
theorem waits_walk (W : Work) (aj af : Option Addr) (cj cf : Nat) (w : World) (hW : WorkIn w W aj af) :
    Calls Try.prog 9 #[.agg #[.int .i64 W.rules.slice, .int .i64 W.rules.load, .int .i64 W.rules.dump, .int .i64 W.rules.patience, .int .i64 W.rules.rate, .slice aj W.jobs.length cj, .slice af W.faults.length cf]] w fun e w' => e = .returned (.bool true) ∧ Below w.heap.size w w' := by
  have HW := hid hW
  clear hW
  refine enter_F Try.func9 rfl Try.ntmps9 (by simp) ?_
  intro s hs
  have sl0 : s 0 = .agg #[.int .i64 W.rules.slice, .int .i64 W.rules.load, .int .i64 W.rules.dump, .int .i64 W.rules.patience, .int .i64 W.rules.rate, .slice aj W.jobs.length cj, .slice af W.faults.length cf] := hs 0 (by simp)
  clear hs
  repeat (first | ((first | (refine listF_step rfl (fun K' hK => ?_)) | (refine listF_yes rfl rfl (by decide) ?_ (fun K' hK => ?_); (focus (go_simp; done)))); unfold opF; go_simp; (refine hK _ _ ?_); clear hK K') | (refine listF_no (b' := true) rfl rfl (by decide) ?_ ?_ ?_; (focus (go_simp; done)); (focus rfl)) | (refine listF_no (b' := false) rfl rfl (by decide) ?_ ?_ ?_; (focus (go_simp; done)); (focus rfl)) | (refine listF_nu rfl rfl (by decide) ?_ ?_; (focus (go_simp; done))) | (refine listF_nil ?_) | (refine region_F ?_) | (refine cond_F true ?_ ?_; (focus (go_simp; done)); simp only [if_true]) | (refine cond_F false ?_ ?_; (focus (go_simp; done)); simp only [Bool.false_eq_true, if_false]) | (with_reducible go_step))
  refine listF_absw ?_
  intro w1 hw1
  have k1 : Cells w1 w.heap.size #[.int .i64 W.rules.slice, .int .i64 W.rules.load, .int .i64 W.rules.dump, .int .i64 W.rules.patience, .int .i64 W.rules.rate, .slice aj W.jobs.length cj, .slice af W.faults.length cf].toList := by rw [hw1]; exact Cells.new rfl
  have HB0 := hid (show Below w.heap.size w w1 by rw [hw1]; exact (by repeat (first | (with_reducible exact Below.refl _ w) | (with_reducible refine bdrewN ?_ _) | (with_reducible refine Below.drew ?_) | (with_reducible refine Below.setCell ?_ (by first | omega | (simp; done) | (simp; omega)) _) | (with_reducible refine Below.alloc ?_ (by first | omega | (simp; done) | (simp; omega)) _))))
  clear hw1
  (refine listF_abs ?_; intro s' hs'; have gl1 := congrFun hs' 1; simp only [updS_some, updS_none, Nat.reduceEqDiff, ↓reduceIte] at gl1; (try rw [sl1] at gl1); have gl2 := congrFun hs' 2; simp only [updS_some, updS_none, Nat.reduceEqDiff, ↓reduceIte] at gl2; (try rw [sl2] at gl2); have gl11 := congrFun hs' 11; simp only [updS_some, updS_none, Nat.reduceEqDiff, ↓reduceIte] at gl11; (try rw [sl11] at gl11); clear hs'; (try clear sl1); (try clear sl2); (try clear sl11); have sl1 := gl1; clear gl1; have sl2 := gl2; clear gl2; have sl11 := gl11; clear gl11)
  (refine listF_step rfl (fun K' hK => ?_); unfold opF; go_simp; refine (qBegin_any W aj af cj cf _ (HW.out.at HB0.out)).mono ?_; rintro e w2 ⟨v0, rfl, ho, hb2⟩; refine ⟨_, rfl, hK _ _ ?_⟩; clear hK K')
  obtain ⟨a0, c0, rfl, hrd0, hfr0⟩ := Own.slice (f := St.cs) (m := 5) (fun _ => rfl) ho
  clear ho hfr0
  replace k1 := k1.at hb2
  have HB1 := hid (HB0.out.trans (hb2.mono HB0.out.size) : Below w.heap.size w w2)
  clear hb2 HB0
  have hs2 : w.heap.size < w2.heap.size := k1.1
  by_cases he : W.err = 0
  · have He := hid he
    have HK := hid (wok_of_err he)
    have hE' : (W.err != 0) = false := by simp [he]
    rw [begJobs_ok he] at hrd0 ⊢
    clear he
    (refine listF_abs ?_; intro s' hs'; have gl1 := congrFun hs' 1; simp only [updS_some, updS_none, Nat.reduceEqDiff, ↓reduceIte] at gl1; (try rw [sl1] at gl1); have gl2 := congrFun hs' 2; simp only [updS_some, updS_none, Nat.reduceEqDiff, ↓reduceIte] at gl2; (try rw [sl2] at gl2); have gl12 := congrFun hs' 12; simp only [updS_some, updS_none, Nat.reduceEqDiff, ↓reduceIte] at gl12; (try rw [sl12] at gl12); clear hs'; (try clear sl1); (try clear sl2); (try clear sl12); have sl1 := gl1; clear gl1; have sl2 := gl2; clear gl2; have sl12 := gl12; clear gl12)
    have k1_0 := k1.cell 0 rfl
    have k1_1 := k1.cell 1 rfl
    have k1_2 := k1.cell 2 rfl
    have k1_3 := k1.cell 3 rfl
    have k1_4 := k1.cell 4 rfl
    have k1_5 := k1.cell 5 rfl
    have k1_6 := k1.cell 6 rfl
    have k1_s := k1.1
    by_cases hne : 0 < W.jobs.length
    · obtain ⟨hL1, hL2, hL3, hL4⟩ := longest_ok HK.out hne
      have hn0 : ((W.jobs.length : Int) == 0) = false := beq_eq_false_iff_ne.2 (by omega)
      repeat (first | ((first | (refine listF_step rfl (fun K' hK => ?_)) | (refine listF_yes rfl rfl (by decide) ?_ (fun K' hK => ?_); (focus (go_simp; done)))); unfold opF; go_simp; (refine hK _ _ ?_); clear hK K') | (refine listF_no (b' := true) rfl rfl (by decide) ?_ ?_ ?_; (focus (go_simp; done)); (focus rfl)) | (refine listF_no (b' := false) rfl rfl (by decide) ?_ ?_ ?_; (focus (go_simp; done)); (focus rfl)) | (refine listF_nu rfl rfl (by decide) ?_ ?_; (focus (go_simp; done))) | (refine listF_nil ?_) | (refine region_F ?_) | (refine cond_F true ?_ ?_; (focus (go_simp; done)); simp only [if_true]) | (refine cond_F false ?_ ?_; (focus (go_simp; done)); simp only [Bool.false_eq_true, if_false]) | (with_reducible go_step))
      refine listF_absw ?_
      intro w3 hw3
      have k3 : Cells w3 w2.heap.size [.int .i64 0, .slice a0 (beginQ W).jobs.length c0] := by rw [hw3]; exact Cells.new (cs := #[.int .i64 0, .slice a0 (beginQ W).jobs.length c0]) rfl
      have hbw3 : Below w2.heap.size w2 w3 := by rw [hw3]; exact (by repeat (first | (with_reducible exact Below.refl _ w2) | (with_reducible refine bdrewN ?_ _) | (with_reducible refine Below.drew ?_) | (with_reducible refine Below.setCell ?_ (by first | omega | (simp; done) | (simp; omega)) _) | (with_reducible refine Below.alloc ?_ (by first | omega | (simp; done) | (simp; omega)) _)))
      clear hw3
      clear k1_0 k1_1 k1_2 k1_3 k1_4 k1_5 k1_6 k1_s
      replace k1 := k1.at hbw3
      replace hrd0 := Rd.at hrd0 hbw3
      have HB2 := hid (HB1.out.trans (hbw3.mono HB1.out.size) : Below w.heap.size w w3)
      clear hbw3 HB1 hE' hn0
      generalize w2.heap.size = B3 at *
      (refine listF_abs ?_; intro s' hs'; have gl1 := congrFun hs' 1; simp only [updS_some, updS_none, Nat.reduceEqDiff, ↓reduceIte] at gl1; (try rw [sl1] at gl1); have gl3 := congrFun hs' 3; simp only [updS_some, updS_none, Nat.reduceEqDiff, ↓reduceIte] at gl3; (try rw [sl3] at gl3); have gl26 := congrFun hs' 26; simp only [updS_some, updS_none, Nat.reduceEqDiff, ↓reduceIte] at gl26; (try rw [sl26] at gl26); have gl29 := congrFun hs' 29; simp only [updS_some, updS_none, Nat.reduceEqDiff, ↓reduceIte] at gl29; (try rw [sl29] at gl29); clear hs'; (try clear sl1); (try clear sl3); (try clear sl26); (try clear sl29); have sl1 := gl1; clear gl1; have sl3 := gl3; clear gl3; have sl26 := gl26; clear gl26; have sl29 := gl29; clear gl29)
      (refine listF_step rfl (fun K' hK => ?_); unfold opF; go_simp; refine (qlongest_any W.rules W.jobs.length _).mono ?_; rintro e w4 ⟨rfl, hb4⟩; refine ⟨_, rfl, hK _ _ ?_⟩; clear hK K')
      rw [hL1, hL2]
      have HLL := hid hL1
      clear hL1 hL2
      generalize hL0 : W.rules.patience + (W.jobs.length : Int) * W.rules.turn = L0 at *
      have HL0 := hid hL0
      clear hL0
      replace k1 := k1.at hb4
      replace k3 := k3.at hb4
      replace hrd0 := Rd.at hrd0 hb4
      have HB3 := hid (HB2.out.trans (hb4.mono HB2.out.size) : Below w.heap.size w w4)
      clear hb4 HB2
      (refine listF_abs ?_; intro s' hs'; have gl1 := congrFun hs' 1; simp only [updS_some, updS_none, Nat.reduceEqDiff, ↓reduceIte] at gl1; (try rw [sl1] at gl1); have gl3 := congrFun hs' 3; simp only [updS_some, updS_none, Nat.reduceEqDiff, ↓reduceIte] at gl3; (try rw [sl3] at gl3); have gl30 := congrFun hs' 30; simp only [updS_some, updS_none, Nat.reduceEqDiff, ↓reduceIte] at gl30; (try rw [sl30] at gl30); clear hs'; (try clear sl1); (try clear sl3); (try clear sl30); have sl1 := gl1; clear gl1; have sl3 := gl3; clear gl3; have sl30 := gl30; clear gl30)
      have hbl : (beginQ W).jobs.length = W.jobs.length := by simp [beginQ]
      have n1 : (((beginQ W).jobs.length : Int) != (W.jobs.length : Int)) = false := by rw [hbl]; simp
      clear hbl
      have k1_0 := k1.cell 0 rfl
      have k1_1 := k1.cell 1 rfl
      have k1_2 := k1.cell 2 rfl
      have k1_3 := k1.cell 3 rfl
      have k1_4 := k1.cell 4 rfl
      have k1_5 := k1.cell 5 rfl
      have k1_6 := k1.cell 6 rfl
      have k1_s := k1.1
      have k3_0 := k3.cell 0 rfl
      have k3_1 := k3.cell 1 rfl
      have k3_s := k3.1
      repeat (first | ((first | (refine listF_step rfl (fun K' hK => ?_)) | (refine listF_yes rfl rfl (by decide) ?_ (fun K' hK => ?_); (focus (go_simp; done)))); unfold opF; go_simp; (refine hK _ _ ?_); clear hK K') | (refine listF_no (b' := true) rfl rfl (by decide) ?_ ?_ ?_; (focus (go_simp; done)); (focus rfl)) | (refine listF_no (b' := false) rfl rfl (by decide) ?_ ?_ ?_; (focus (go_simp; done)); (focus rfl)) | (refine listF_nu rfl rfl (by decide) ?_ ?_; (focus (go_simp; done))) | (refine listF_nil ?_) | (refine region_F ?_) | (refine cond_F true ?_ ?_; (focus (go_simp; done)); simp only [if_true]) | (refine cond_F false ?_ ?_; (focus (go_simp; done)); simp only [Bool.false_eq_true, if_false]) | (with_reducible go_step))
      (refine listF_abs ?_; intro s' hs'; have gl1 := congrFun hs' 1; simp only [updS_some, updS_none, Nat.reduceEqDiff, ↓reduceIte] at gl1; (try rw [sl1] at gl1); have gl3 := congrFun hs' 3; simp only [updS_some, updS_none, Nat.reduceEqDiff, ↓reduceIte] at gl3; (try rw [sl3] at gl3); have gl5 := congrFun hs' 5; simp only [updS_some, updS_none, Nat.reduceEqDiff, ↓reduceIte] at gl5; (try rw [sl5] at gl5); have gl44 := congrFun hs' 44; simp only [updS_some, updS_none, Nat.reduceEqDiff, ↓reduceIte] at gl44; (try rw [sl44] at gl44); have gl45 := congrFun hs' 45; simp only [updS_some, updS_none, Nat.reduceEqDiff, ↓reduceIte] at gl45; (try rw [sl45] at gl45); clear hs'; (try clear sl1); (try clear sl3); (try clear sl5); (try clear sl44); (try clear sl45); have sl1 := gl1; clear gl1; have sl3 := gl3; clear gl3; have sl5 := gl5; clear gl5; have sl44 := gl44; clear gl44; have sl45 := gl45; clear gl45)
      (refine listF_yes rfl rfl (by decide) ?_ (fun K' hK => ?_); (focus (go_simp; done)); unfold opF; go_simp; refine (valid_any W aj af cj cf _ (HW.out.at HB3.out)).mono ?_; rintro e w5 ⟨rfl, hb5⟩; refine ⟨_, rfl, hK _ _ ?_⟩; clear hK K')
      rw [show (W.err == 0) = true by simp [He.out]]
      clear k1_0 k1_1 k1_2 k1_3 k1_4 k1_5 k1_6 k1_s k3_0 k3_1 k3_s
      replace k1 := k1.at hb5
      replace k3 := k3.at hb5
      replace hrd0 := Rd.at hrd0 hb5
      have HB4 := hid (HB3.out.trans (hb5.mono HB3.out.size) : Below w.heap.size w w5)
      clear hb5 HB3 n1
      (refine listF_abs ?_; intro s' hs'; have gl1 := congrFun hs' 1; simp only [updS_some, updS_none, Nat.reduceEqDiff, ↓reduceIte] at gl1; (try rw [sl1] at gl1); have gl3 := congrFun hs' 3; simp only [updS_some, updS_none, Nat.reduceEqDiff, ↓reduceIte] at gl3; (try rw [sl3] at gl3); have gl5 := congrFun hs' 5; simp only [updS_some, updS_none, Nat.reduceEqDiff, ↓reduceIte] at gl5; (try rw [sl5] at gl5); have gl44 := congrFun hs' 44; simp only [updS_some, updS_none, Nat.reduceEqDiff, ↓reduceIte] at gl44; (try rw [sl44] at gl44); have gl46 := congrFun hs' 46; simp only [updS_some, updS_none, Nat.reduceEqDiff, ↓reduceIte] at gl46; (try rw [sl46] at gl46); clear hs'; (try clear sl1); (try clear sl3); (try clear sl5); (try clear sl44); (try clear sl46); have sl1 := gl1; clear gl1; have sl3 := gl3; clear gl3; have sl5 := gl5; clear gl5; have sl44 := gl44; clear gl44; have sl46 := gl46; clear gl46)
      have k1_0 := k1.cell 0 rfl
      have k1_1 := k1.cell 1 rfl
      have k1_2 := k1.cell 2 rfl
      have k1_3 := k1.cell 3 rfl
      have k1_4 := k1.cell 4 rfl
      have k1_5 := k1.cell 5 rfl
      have k1_6 := k1.cell 6 rfl
      have k1_s := k1.1
      repeat (first | ((first | (refine listF_step rfl (fun K' hK => ?_)) | (refine listF_yes rfl rfl (by decide) ?_ (fun K' hK => ?_); (focus (go_simp; done)))); unfold opF; go_simp; (refine hK _ _ ?_); clear hK K') | (refine listF_no (b' := true) rfl rfl (by decide) ?_ ?_ ?_; (focus (go_simp; done)); (focus rfl)) | (refine listF_no (b' := false) rfl rfl (by decide) ?_ ?_ ?_; (focus (go_simp; done)); (focus rfl)) | (refine listF_nu rfl rfl (by decide) ?_ ?_; (focus (go_simp; done))) | (refine listF_nil ?_) | (refine region_F ?_) | (refine cond_F true ?_ ?_; (focus (go_simp; done)); simp only [if_true]) | (refine cond_F false ?_ ?_; (focus (go_simp; done)); simp only [Bool.false_eq_true, if_false]) | (with_reducible go_step))
      (refine listF_abs ?_; intro s' hs'; have gl1 := congrFun hs' 1; simp only [updS_some, updS_none, Nat.reduceEqDiff, ↓reduceIte] at gl1; (try rw [sl1] at gl1); have gl3 := congrFun hs' 3; simp only [updS_some, updS_none, Nat.reduceEqDiff, ↓reduceIte] at gl3; (try rw [sl3] at gl3); have gl49 := congrFun hs' 49; simp only [updS_some, updS_none, Nat.reduceEqDiff, ↓reduceIte] at gl49; (try rw [sl49] at gl49); have gl50 := congrFun hs' 50; simp only [updS_some, updS_none, Nat.reduceEqDiff, ↓reduceIte] at gl50; (try rw [sl50] at gl50); clear hs'; (try clear sl1); (try clear sl3); (try clear sl49); (try clear sl50); have sl1 := gl1; clear gl1; have sl3 := gl3; clear gl3; have sl49 := gl49; clear gl49; have sl50 := gl50; clear gl50)
      (refine listF_step rfl (fun K' hK => ?_); unfold opF; go_simp; refine (repairs_any W aj af cj cf _ (HW.out.at HB4.out).faults HK.out).mono ?_; rintro e w6 ⟨rfl, hb6⟩; refine ⟨_, rfl, hK _ _ ?_⟩; clear hK K')
      clear k1_0 k1_1 k1_2 k1_3 k1_4 k1_5 k1_6 k1_s
      replace k1 := k1.at hb6
      replace k3 := k3.at hb6
      replace hrd0 := Rd.at hrd0 hb6
      have HB5 := hid (HB4.out.trans (hb6.mono HB4.out.size) : Below w.heap.size w w6)
      clear hb6 HB4
      obtain ⟨hR0, hR1⟩ := repairs_bd HK.out
      rw [show (W.faults.length : Int) * W.rules.turn + (W.faults.map Fault.rep).sum = repairsOf W from rfl]
      have hbd : ∀ qc, DOk W qc → WaitI W qc → ∀ (i : Nat) (hi : i < qc.jobs.length), qc.jobs[i].why = 0 → qc.now - qc.jobs[i].since ≤ L0 + repairsOf W := by
        intro qc hD hI i hi hw
        have := waitI_bd HK.out hD hI i hi (by rw [Qu.st_eq hi]; exact hw)
        rw [Qu.st_eq hi, HL0.out] at this
        exact this
      have Hbd := hid hbd
      clear hbd HL0 HLL
      generalize repairsOf W = R at *
      have hwL : IntKind.i64.wrap (L0 + R) = L0 + R := IntWalk.i64_in _ (by omega)
      (refine listF_abs ?_; intro s' hs'; have gl1 := congrFun hs' 1; simp only [updS_some, updS_none, Nat.reduceEqDiff, ↓reduceIte] at gl1; (try rw [sl1] at gl1); have gl3 := congrFun hs' 3; simp only [updS_some, updS_none, Nat.reduceEqDiff, ↓reduceIte] at gl3; (try rw [sl3] at gl3); have gl49 := congrFun hs' 49; simp only [updS_some, updS_none, Nat.reduceEqDiff, ↓reduceIte] at gl49; (try rw [sl49] at gl49); have gl51 := congrFun hs' 51; simp only [updS_some, updS_none, Nat.reduceEqDiff, ↓reduceIte] at gl51; (try rw [sl51] at gl51); clear hs'; (try clear sl1); (try clear sl3); (try clear sl49); (try clear sl51); have sl1 := gl1; clear gl1; have sl3 := gl3; clear gl3; have sl49 := gl49; clear gl49; have sl51 := gl51; clear gl51)
      repeat (first | ((first | (refine listF_step rfl (fun K' hK => ?_)) | (refine listF_yes rfl rfl (by decide) ?_ (fun K' hK => ?_); (focus (go_simp; done)))); unfold opF; go_simp; (refine hK _ _ ?_); clear hK K') | (refine listF_no (b' := true) rfl rfl (by decide) ?_ ?_ ?_; (focus (go_simp; done)); (focus rfl)) | (refine listF_no (b' := false) rfl rfl (by decide) ?_ ?_ ?_; (focus (go_simp; done)); (focus rfl)) | (refine listF_nu rfl rfl (by decide) ?_ ?_; (focus (go_simp; done))) | (refine listF_nil ?_) | (refine region_F ?_) | (refine cond_F true ?_ ?_; (focus (go_simp; done)); simp only [if_true]) | (refine cond_F false ?_ ?_; (focus (go_simp; done)); simp only [Bool.false_eq_true, if_false]) | (with_reducible go_step))
      (refine wp_abs ?_; intro s' hs'; have gl1 := congrFun hs' 1; simp only [updS_some, updS_none, Nat.reduceEqDiff, ↓reduceIte] at gl1; (try rw [sl1] at gl1); have gl3 := congrFun hs' 3; simp only [updS_some, updS_none, Nat.reduceEqDiff, ↓reduceIte] at gl3; (try rw [sl3] at gl3); have gl5 := congrFun hs' 5; simp only [updS_some, updS_none, Nat.reduceEqDiff, ↓reduceIte] at gl5; (try rw [sl5] at gl5); clear hs'; (try clear sl1); (try clear sl3); (try clear sl5); have sl1 := gl1; clear gl1; have sl3 := gl3; clear gl3; have sl5 := gl5; clear gl5)
      clear hwL
      obtain ⟨Lg, hLg⟩ : ∃ Lg, L0 + R = Lg := ⟨_, rfl⟩
      rw [hLg] at Hbd sl5
      have hLb : 0 ≤ Lg ∧ Lg ≤ 2000000 := by omega
      clear hLg hL3 hL4 hR0 hR1
      refine loop_F (n := 156) (fun m s wr => ∃ (lst : List Spell) (qc : Qu) (a : Option Addr) (c : Nat), DayI W 5000 m lst qc ∧ WaitI W qc ∧ s 1 = .pointer (some ⟨w.heap.size, 0, none⟩) ∧ s 3 = .pointer (some ⟨B3, 0, none⟩) ∧ s 5 = .int .i64 Lg ∧
        Cells wr B3 [.int .i64 qc.now, .slice a qc.jobs.length c] ∧ RdSts wr a qc.jobs ∧ Cells wr w.heap.size #[.int .i64 W.rules.slice, .int .i64 W.rules.load, .int .i64 W.rules.dump, .int .i64 W.rules.patience, .int .i64 W.rules.rate, .slice aj W.jobs.length cj, .slice af W.faults.length cf].toList ∧ Below w.heap.size w wr) (k0 := (5000 : Int).toNat) ⟨[], beginQ W, a0, c0, DayI.start HK.out, waitI_begin HK.out, sl1, sl3, sl5, k3, hrd0, k1, HB5.out⟩ ?_
      clear sl1 sl3 sl5 k3 hrd0 k1 HB5
      rintro m s wr ⟨lst, qc, a, c, hDI, hWI, sl1, sl3, sl5, k3, hqc, k1, hB⟩
      have hjl := hDI.ok.len
      have hjw := HK.out.jl
      have hlm : qc.jobs.length ≤ 12 := by omega
      have HDI := hid hDI
      have HWI := hid hWI
      have Hjl := hid hjl
      have HB := hid hB
      clear hDI hjl hB hWI
      have k3_0 := k3.cell 0 rfl
      have k3_1 := k3.cell 1 rfl
      have k3_s := k3.1
      repeat (first | (refine wp_seq_k (fun K' hK' => ?_)) | (refine wp_block ?_))
      refine cut_F (fun s w5 => s 1 = .pointer (some ⟨w.heap.size, 0, none⟩) ∧ s 3 = .pointer (some ⟨B3, 0, none⟩) ∧ s 5 = .int .i64 Lg ∧ s 59 = .bool (decide (qc.now < 5000) && waits qc.jobs) ∧ Below wr.heap.size wr w5) ?_ ?_
      · rcases dec_or (qc.now < 5000) with t1 | t1
        · repeat (first | ((first | (refine listF_step rfl (fun K' hK => ?_)) | (refine listF_yes rfl rfl (by decide) ?_ (fun K' hK => ?_); (focus (go_simp; done)))); unfold opF; go_simp; (refine hK _ _ ?_); clear hK K') | (refine listF_no (b' := true) rfl rfl (by decide) ?_ ?_ ?_; (focus (go_simp; done)); (focus rfl)) | (refine listF_no (b' := false) rfl rfl (by decide) ?_ ?_ ?_; (focus (go_simp; done)); (focus rfl)) | (refine listF_nu rfl rfl (by decide) ?_ ?_; (focus (go_simp; done))) | (refine listF_nil ?_) | (refine region_F ?_) | (refine cond_F true ?_ ?_; (focus (go_simp; done)); simp only [if_true]) | (refine cond_F false ?_ ?_; (focus (go_simp; done)); simp only [Bool.false_eq_true, if_false]) | (with_reducible go_step))
          (refine listF_yes rfl rfl (by decide) ?_ (fun K' hK => ?_); (focus (go_simp; done)); unfold opF; go_simp; refine (rwaits_any qc.now a c qc.jobs _ (by omega) hqc).mono ?_; rintro e w5 ⟨rfl, hb5⟩; refine ⟨_, rfl, hK _ _ ?_⟩; clear hK K')
          repeat (first | ((first | (refine listF_step rfl (fun K' hK => ?_)) | (refine listF_yes rfl rfl (by decide) ?_ (fun K' hK => ?_); (focus (go_simp; done)))); unfold opF; go_simp; (refine hK _ _ ?_); clear hK K') | (refine listF_no (b' := true) rfl rfl (by decide) ?_ ?_ ?_; (focus (go_simp; done)); (focus rfl)) | (refine listF_no (b' := false) rfl rfl (by decide) ?_ ?_ ?_; (focus (go_simp; done)); (focus rfl)) | (refine listF_nu rfl rfl (by decide) ?_ ?_; (focus (go_simp; done))) | (refine listF_nil ?_) | (refine region_F ?_) | (refine cond_F true ?_ ?_; (focus (go_simp; done)); simp only [if_true]) | (refine cond_F false ?_ ?_; (focus (go_simp; done)); simp only [Bool.false_eq_true, if_false]) | (with_reducible go_step))
          exact ⟨rfl, _, rfl, (by first | (go_simp; done) | exact sl1 | (simp only [updS_some, updS_none, Nat.reduceEqDiff, ↓reduceIte]; exact sl1)), (by first | (go_simp; done) | exact sl3 | (simp only [updS_some, updS_none, Nat.reduceEqDiff, ↓reduceIte]; exact sl3)), (by first | (go_simp; done) | exact sl5 | (simp only [updS_some, updS_none, Nat.reduceEqDiff, ↓reduceIte]; exact sl5)), (by first | (go_simp; done) | (go_simp; simp [t1])), hb5⟩
        · repeat (first | ((first | (refine listF_step rfl (fun K' hK => ?_)) | (refine listF_yes rfl rfl (by decide) ?_ (fun K' hK => ?_); (focus (go_simp; done)))); unfold opF; go_simp; (refine hK _ _ ?_); clear hK K') | (refine listF_no (b' := true) rfl rfl (by decide) ?_ ?_ ?_; (focus (go_simp; done)); (focus rfl)) | (refine listF_no (b' := false) rfl rfl (by decide) ?_ ?_ ?_; (focus (go_simp; done)); (focus rfl)) | (refine listF_nu rfl rfl (by decide) ?_ ?_; (focus (go_simp; done))) | (refine listF_nil ?_) | (refine region_F ?_) | (refine cond_F true ?_ ?_; (focus (go_simp; done)); simp only [if_true]) | (refine cond_F false ?_ ?_; (focus (go_simp; done)); simp only [Bool.false_eq_true, if_false]) | (with_reducible go_step))
          exact ⟨rfl, _, rfl, (by first | (go_simp; done) | exact sl1 | (simp only [updS_some, updS_none, Nat.reduceEqDiff, ↓reduceIte]; exact sl1)), (by first | (go_simp; done) | exact sl3 | (simp only [updS_some, updS_none, Nat.reduceEqDiff, ↓reduceIte]; exact sl3)), (by first | (go_simp; done) | exact sl5 | (simp only [updS_some, updS_none, Nat.reduceEqDiff, ↓reduceIte]; exact sl5)), (by first | (go_simp; done) | (go_simp; simp [t1])), Below.refl _ _⟩
      clear sl1 sl3 sl5
      clear k3_0 k3_1 k3_s
      rintro s w5 ⟨sl1, sl3, sl5, sl59, hb5⟩
      replace k1 := k1.at hb5
      replace k3 := k3.at hb5
      replace hqc := Rd.at hqc hb5
      have HB5 := hid (HB.out.trans (hb5.mono HB.out.size) : Below w.heap.size w w5)
      clear hb5 HB
      rcases Bool.eq_false_or_eq_true (decide (qc.now < 5000) && waits qc.jobs) with hc | hc
      · rw [hc] at sl59
        simp only [Bool.and_eq_true, decide_eq_true_eq] at hc
        obtain ⟨hnw, hwt⟩ := hc
        obtain ⟨m', rfl, hDI'⟩ := HDI.out.next HK.out (by omega) hnw hwt
        have hst := step_ok HK.out HDI.out.ok hwt (by omega)
        have hres := HDI.out.ok.res He.out hwt
        have hkp := step_fair HK.out HDI.out.ok hwt
        have hln := step_len HK.out HDI.out.ok hwt
        have hwn := waitI_step HK.out HDI.out.ok hwt HWI.out
        have hbq := Hbd.out qc HDI.out.ok HWI.out
        have hnb : 0 ≤ qc.now ∧ qc.now ≤ 10000 := ⟨HDI.out.ok.now0, HDI.out.ok.now1⟩
        have Hsb := hid (fun (i : Nat) (hi : i < qc.jobs.length) => (HDI.out.ok.st i hi (by have := Hjl.out; omega)).2.1)
        have Hst := hid hst
        have HDn := hid hDI'
        have Hres := hid hres
        have Hkp := hid hkp
        have Hln := hid hln
        have HWn := hid hwn
        have Hbq := hid hbq
        clear hst hres hDI' hkp hln HDI hnw hwt hwn hbq HWI
        have k1_0 := k1.cell 0 rfl
        have k1_1 := k1.cell 1 rfl
        have k1_2 := k1.cell 2 rfl
        have k1_3 := k1.cell 3 rfl
        have k1_4 := k1.cell 4 rfl
        have k1_5 := k1.cell 5 rfl
        have k1_6 := k1.cell 6 rfl
        have k1_s := k1.1
        have k3_0 := k3.cell 0 rfl
        have k3_1 := k3.cell 1 rfl
        have k3_s := k3.1
        repeat (first | ((first | (refine listF_step rfl (fun K' hK => ?_)) | (refine listF_yes rfl rfl (by decide) ?_ (fun K' hK => ?_); (focus (go_simp; done)))); unfold opF; go_simp; (refine hK _ _ ?_); clear hK K') | (refine listF_no (b' := true) rfl rfl (by decide) ?_ ?_ ?_; (focus (go_simp; done)); (focus rfl)) | (refine listF_no (b' := false) rfl rfl (by decide) ?_ ?_ ?_; (focus (go_simp; done)); (focus rfl)) | (refine listF_nu rfl rfl (by decide) ?_ ?_; (focus (go_simp; done))) | (refine listF_nil ?_) | (refine region_F ?_) | (refine cond_F true ?_ ?_; (focus (go_simp; done)); simp only [if_true]) | (refine cond_F false ?_ ?_; (focus (go_simp; done)); simp only [Bool.false_eq_true, if_false]) | (with_reducible go_step))
        (refine listF_abs ?_; intro s' hs'; have gl1 := congrFun hs' 1; simp only [updS_some, updS_none, Nat.reduceEqDiff, ↓reduceIte] at gl1; (try rw [sl1] at gl1); have gl3 := congrFun hs' 3; simp only [updS_some, updS_none, Nat.reduceEqDiff, ↓reduceIte] at gl3; (try rw [sl3] at gl3); have gl5 := congrFun hs' 5; simp only [updS_some, updS_none, Nat.reduceEqDiff, ↓reduceIte] at gl5; (try rw [sl5] at gl5); have gl61 := congrFun hs' 61; simp only [updS_some, updS_none, Nat.reduceEqDiff, ↓reduceIte] at gl61; (try rw [sl61] at gl61); have gl62 := congrFun hs' 62; simp only [updS_some, updS_none, Nat.reduceEqDiff, ↓reduceIte] at gl62; (try rw [sl62] at gl62); clear hs'; (try clear sl1); (try clear sl3); (try clear sl5); (try clear sl61); (try clear sl62); have sl1 := gl1; clear gl1; have sl3 := gl3; clear gl3; have sl5 := gl5; clear gl5; have sl61 := gl61; clear gl61; have sl62 := gl62; clear gl62)
        (refine listF_step rfl (fun K' hK => ?_); unfold opF; go_simp; refine (qNext_new W qc aj af a cj cf c _ (HW.out.at HB5.out) hqc).mono ?_; rintro e w6 ⟨a', c', rfl, hqn, hb6, hfr⟩; refine ⟨_, rfl, hK _ _ ?_⟩; clear hK K')
        rw [Hres.out] at hqn ⊢
        clear Hres
        generalize nextStep W qc = ns at *
        obtain ⟨sp, qn⟩ := ns
        clear k1_0 k1_1 k1_2 k1_3 k1_4 k1_5 k1_6 k1_s k3_0 k3_1 k3_s
        have hs56 := hb6.size
        have hs5 : B3 < w5.heap.size := k3.1
        replace k1 := k1.at hb6
        replace k3 := k3.at hb6
        replace hqc := Rd.at hqc hb6
        have HB6 := hid (HB5.out.trans (hb6.mono HB5.out.size) : Below w.heap.size w w6)
        have hfr5 : ∀ b, a' = some b → b.block ≠ B3 := fun b hb => by have := hfr b hb; omega
        clear hb6 HB5 hfr
        have Hfr := hid hfr5
        clear hfr5
        (refine listF_abs ?_; intro s' hs'; have gl1 := congrFun hs' 1; simp only [updS_some, updS_none, Nat.reduceEqDiff, ↓reduceIte] at gl1; (try rw [sl1] at gl1); have gl3 := congrFun hs' 3; simp only [updS_some, updS_none, Nat.reduceEqDiff, ↓reduceIte] at gl3; (try rw [sl3] at gl3); have gl5 := congrFun hs' 5; simp only [updS_some, updS_none, Nat.reduceEqDiff, ↓reduceIte] at gl5; (try rw [sl5] at gl5); have gl63 := congrFun hs' 63; simp only [updS_some, updS_none, Nat.reduceEqDiff, ↓reduceIte] at gl63; (try rw [sl63] at gl63); clear hs'; (try clear sl1); (try clear sl3); (try clear sl5); (try clear sl63); have sl1 := gl1; clear gl1; have sl3 := gl3; clear gl3; have sl5 := gl5; clear gl5; have sl63 := gl63; clear gl63)
        iterate 9 (refine listF_step rfl (fun K' hK => ?_); unfold opF; go_simp; refine hK _ _ ?_; clear hK K')
        refine listF_absw ?_
        intro w7 hw7
        have k6 : Cells w7 w6.heap.size [.int .i64 sp.kind, .int .i64 sp.job, .int .i64 sp.from0, .int .i64 sp.until0] := by rw [hw7]; exact (Cells.new (cs := #[.int .i64 sp.kind, .int .i64 sp.job, .int .i64 sp.from0, .int .i64 sp.until0]) rfl).up _
        have k7 : Cells w7 (w6.heap.size + 1) [.int .i64 qn.now, .slice a' qn.jobs.length c'] := by rw [hw7]; exact Cells.new (cs := #[.int .i64 qn.now, .slice a' qn.jobs.length c']) (by first | omega | (simp; done) | (simp; omega))
        have hb7 : Below w6.heap.size w6 w7 := by rw [hw7]; exact (by repeat (first | (with_reducible exact Below.refl _ w6) | (with_reducible refine bdrewN ?_ _) | (with_reducible refine Below.drew ?_) | (with_reducible refine Below.setCell ?_ (by first | omega | (simp; done) | (simp; omega)) _) | (with_reducible refine Below.alloc ?_ (by first | omega | (simp; done) | (simp; omega)) _)))
        clear hw7
        replace k1 := k1.at hb7
        replace k3 := k3.at hb7
        replace hqc := Rd.at hqc hb7
        replace hqn := Rd.at hqn hb7
        have HB7 := hid (HB6.out.trans (hb7.mono HB6.out.size) : Below w.heap.size w w7)
        clear hb7 HB6
        generalize w6.heap.size = B6 at *
        (refine listF_abs ?_; intro s' hs'; have gl1 := congrFun hs' 1; simp only [updS_some, updS_none, Nat.reduceEqDiff, ↓reduceIte] at gl1; (try rw [sl1] at gl1); have gl3 := congrFun hs' 3; simp only [updS_some, updS_none, Nat.reduceEqDiff, ↓reduceIte] at gl3; (try rw [sl3] at gl3); have gl5 := congrFun hs' 5; simp only [updS_some, updS_none, Nat.reduceEqDiff, ↓reduceIte] at gl5; (try rw [sl5] at gl5); have gl6 := congrFun hs' 6; simp only [updS_some, updS_none, Nat.reduceEqDiff, ↓reduceIte] at gl6; (try rw [sl6] at gl6); have gl7 := congrFun hs' 7; simp only [updS_some, updS_none, Nat.reduceEqDiff, ↓reduceIte] at gl7; (try rw [sl7] at gl7); have gl8 := congrFun hs' 8; simp only [updS_some, updS_none, Nat.reduceEqDiff, ↓reduceIte] at gl8; (try rw [sl8] at gl8); clear hs'; (try clear sl1); (try clear sl3); (try clear sl5); (try clear sl6); (try clear sl7); (try clear sl8); have sl1 := gl1; clear gl1; have sl3 := gl3; clear gl3; have sl5 := gl5; clear gl5; have sl6 := gl6; clear gl6; have sl7 := gl7; clear gl7; have sl8 := gl8; clear gl8)
        have n2 : ((qn.jobs.length : Int) != (W.jobs.length : Int)) = false := by have h1 := Hln.out; have := Hjl.out; simp only at h1; simp; omega
        have n4 : decide (qn.now ≤ qc.now) = false := decide_eq_false (by have := Hst.out.1; have := Hst.out.2.2.2; simp only at *; omega)
        have k1_0 := k1.cell 0 rfl
        have k1_1 := k1.cell 1 rfl
        have k1_2 := k1.cell 2 rfl
        have k1_3 := k1.cell 3 rfl
        have k1_4 := k1.cell 4 rfl
        have k1_5 := k1.cell 5 rfl
        have k1_6 := k1.cell 6 rfl
        have k1_s := k1.1
        have k3_0 := k3.cell 0 rfl
        have k3_1 := k3.cell 1 rfl
        have k3_s := k3.1
        have k7_0 := k7.cell 0 rfl
        have k7_1 := k7.cell 1 rfl
        have k7_s := k7.1
        repeat (first | ((first | (refine listF_step rfl (fun K' hK => ?_)) | (refine listF_yes rfl rfl (by decide) ?_ (fun K' hK => ?_); (focus (go_simp; done)))); unfold opF; go_simp; (refine hK _ _ ?_); clear hK K') | (refine listF_no (b' := true) rfl rfl (by decide) ?_ ?_ ?_; (focus (go_simp; done)); (focus rfl)) | (refine listF_no (b' := false) rfl rfl (by decide) ?_ ?_ ?_; (focus (go_simp; done)); (focus rfl)) | (refine listF_nu rfl rfl (by decide) ?_ ?_; (focus (go_simp; done))) | (refine listF_nil ?_) | (refine region_F ?_) | (refine cond_F true ?_ ?_; (focus (go_simp; done)); simp only [if_true]) | (refine cond_F false ?_ ?_; (focus (go_simp; done)); simp only [Bool.false_eq_true, if_false]) | (with_reducible go_step))
        (refine wp_abs ?_; intro s' hs'; have gl1 := congrFun hs' 1; simp only [updS_some, updS_none, Nat.reduceEqDiff, ↓reduceIte] at gl1; (try rw [sl1] at gl1); have gl3 := congrFun hs' 3; simp only [updS_some, updS_none, Nat.reduceEqDiff, ↓reduceIte] at gl3; (try rw [sl3] at gl3); have gl5 := congrFun hs' 5; simp only [updS_some, updS_none, Nat.reduceEqDiff, ↓reduceIte] at gl5; (try rw [sl5] at gl5); have gl6 := congrFun hs' 6; simp only [updS_some, updS_none, Nat.reduceEqDiff, ↓reduceIte] at gl6; (try rw [sl6] at gl6); have gl7 := congrFun hs' 7; simp only [updS_some, updS_none, Nat.reduceEqDiff, ↓reduceIte] at gl7; (try rw [sl7] at gl7); have gl9 := congrFun hs' 9; simp only [updS_some, updS_none, Nat.reduceEqDiff, ↓reduceIte] at gl9; (try rw [sl9] at gl9); clear hs'; (try clear sl1); (try clear sl3); (try clear sl5); (try clear sl6); (try clear sl7); (try clear sl9); have sl1 := gl1; clear gl1; have sl3 := gl3; clear gl3; have sl5 := gl5; clear gl5; have sl6 := gl6; clear gl6; have sl7 := gl7; clear gl7; have sl9 := gl9; clear gl9)
        clear k1_0 k1_1 k1_2 k1_3 k1_4 k1_5 k1_6 k1_s k3_0 k3_1 k3_s k7_0 k7_1 k7_s
        clear n2 n4
        refine loop_F (n := 156) (fun k s wr => ∃ i : Nat, k = qc.jobs.length - i ∧ i ≤ qc.jobs.length ∧ s 1 = .pointer (some ⟨w.heap.size, 0, none⟩) ∧ s 3 = .pointer (some ⟨B3, 0, none⟩) ∧ s 5 = .int .i64 Lg ∧ s 6 = .pointer (some ⟨B6, 0, none⟩) ∧ s 7 = .pointer (some ⟨B6 + 1, 0, none⟩) ∧ s 9 = .int .i64 i ∧ Below w7.heap.size w7 wr) (k0 := qc.jobs.length) ⟨0, by omega, by omega, sl1, sl3, sl5, sl6, sl7, sl9, Below.refl _ _⟩ ?_
        clear sl1 sl3 sl5 sl6 sl7 sl9
        rintro k s wi ⟨i, rfl, hi, sl1, sl3, sl5, sl6, sl7, sl9, hBi⟩
        replace k1 := k1.at hBi
        replace k3 := k3.at hBi
        replace k6 := k6.at hBi
        replace k7 := k7.at hBi
        replace hqc := Rd.at hqc hBi
        replace hqn := Rd.at hqn hBi
        have HBi := hid hBi
        have HBw := hid (HB7.out.trans (hBi.mono HB7.out.size) : Below w.heap.size w wi)
        clear hBi
        by_cases hlt : i < qc.jobs.length
        · have hltW : i < W.jobs.length := by have := Hjl.out; omega
          have hJ := (HW.out.at HBw.out).jobs
          obtain ⟨x1, o1, rfl, hx1, d1, d2, d3, d4, d5⟩ := RdSts.ne hqc hlt
          obtain ⟨x2, o2, rfl, hx2, e1, e2, e3, e4⟩ := RdJobs.ne hJ hltW
          have hb := Hbq.out i hlt
          have hsb := Hsb.out i hlt
          generalize qc.jobs[i] = x at *
          generalize W.jobs[i] = j at *
          have k1_0 := k1.cell 0 rfl
          have k1_1 := k1.cell 1 rfl
          have k1_2 := k1.cell 2 rfl
          have k1_3 := k1.cell 3 rfl
          have k1_4 := k1.cell 4 rfl
          have k1_5 := k1.cell 5 rfl
          have k1_6 := k1.cell 6 rfl
          have k1_s := k1.1
          have k3_0 := k3.cell 0 rfl
          have k3_1 := k3.cell 1 rfl
          have k3_s := k3.1
          have k6_0 := k6.cell 0 rfl
          have k6_1 := k6.cell 1 rfl
          have k6_2 := k6.cell 2 rfl
          have k6_3 := k6.cell 3 rfl
          have k6_s := k6.1
          repeat (first | ((first | (refine listF_step rfl (fun K' hK => ?_)) | (refine listF_yes rfl rfl (by decide) ?_ (fun K' hK => ?_); (focus (go_simp; done)))); unfold opF; go_simp; (refine hK _ _ ?_); clear hK K') | (refine listF_no (b' := true) rfl rfl (by decide) ?_ ?_ ?_; (focus (go_simp; done)); (focus rfl)) | (refine listF_no (b' := false) rfl rfl (by decide) ?_ ?_ ?_; (focus (go_simp; done)); (focus rfl)) | (refine listF_nu rfl rfl (by decide) ?_ ?_; (focus (go_simp; done))) | (refine listF_nil ?_) | (refine region_F ?_) | (refine cond_F true ?_ ?_; (focus (go_simp; done)); simp only [if_true]) | (refine cond_F false ?_ ?_; (focus (go_simp; done)); simp only [Bool.false_eq_true, if_false]) | (with_reducible go_step))
          repeat (first | (refine wp_seq_k (fun K' hK' => ?_)) | (refine wp_block ?_))
          refine cut_F (fun s wq => s 1 = .pointer (some ⟨w.heap.size, 0, none⟩) ∧ s 3 = .pointer (some ⟨B3, 0, none⟩) ∧ s 5 = .int .i64 Lg ∧ s 6 = .pointer (some ⟨B6, 0, none⟩) ∧ s 7 = .pointer (some ⟨B6 + 1, 0, none⟩) ∧ s 9 = .int .i64 i ∧ s 128 = .bool false ∧ Below wi.heap.size wi wq) ?_ ?_
          · have hc4 : ((i : Int) != sp.job) = false ∨ (((i : Int) != sp.job) = true ∧ (x.why == 0) = false) ∨ (((i : Int) != sp.job) = true ∧ (x.why == 0) = true ∧ decide (j.arrive ≤ qc.now) = false) ∨
                (((i : Int) != sp.job) = true ∧ (x.why == 0) = true ∧ decide (j.arrive ≤ qc.now) = true ∧ decide (Lg < qc.now - x.since) = false ∧ IntKind.i64.wrap (qc.now - x.since) = qc.now - x.since) := by
              by_cases h1 : (i : Int) = sp.job
              · exact .inl (by simp [h1])
              · by_cases h2 : x.why = 0
                · by_cases h3 : j.arrive ≤ qc.now
                  · exact .inr (.inr (.inr ⟨by simp [h1], by simp [h2], by simp [h3], decide_eq_false (by have := hb h2; omega), IntWalk.i64_in _ (by omega)⟩))
                  · exact .inr (.inr (.inl ⟨by simp [h1], by simp [h2], by simp [h3]⟩))
                · exact .inr (.inl ⟨by simp [h1], by simp [h2]⟩)
            clear hb hsb
            rcases hc4 with r1 | ⟨r1, r2⟩ | ⟨r1, r2, r3⟩ | ⟨r1, r2, r3, r4, r5⟩
            all_goals refine regionQ_F (Below wi.heap.size wi) (by kernel_rfl) (by kernel_rfl) (Below.refl _ _).drew ?_
            all_goals repeat (first | (refine listQ_step (v := ?_) rfl ?_ ?_; rotate_left; (focus (intro wq hwq; obtain ⟨hcq, hfq⟩ := bcell hwq; go_simp; (first | rfl | (exact ⟨rfl, rfl⟩) | (fail))))) | (refine listQ_yes (v := ?_) rfl rfl (by decide) ?_ ?_ ?_; rotate_left; (focus (go_simp; done)); (focus (intro wq hwq; obtain ⟨hcq, hfq⟩ := bcell hwq; go_simp; (first | rfl | (exact ⟨rfl, rfl⟩) | (fail))))) | (refine listQ_no (b' := true) rfl rfl (by decide) ?_ ?_ ?_; (focus (go_simp; done)); (focus rfl)) | (refine listQ_no (b' := false) rfl rfl (by decide) ?_ ?_ ?_; (focus (go_simp; done)); (focus rfl)) | (refine listQ_nu rfl rfl (by decide) ?_ ?_; (focus (go_simp; done))) | (refine listQ_nil ?_))
            all_goals intro w8 hw8
            all_goals exact ⟨rfl, _, rfl, (by first | (go_simp; done) | exact sl1 | (simp only [updS_some, updS_none, Nat.reduceEqDiff, ↓reduceIte]; exact sl1)), (by first | (go_simp; done) | exact sl3 | (simp only [updS_some, updS_none, Nat.reduceEqDiff, ↓reduceIte]; exact sl3)), (by first | (go_simp; done) | exact sl5 | (simp only [updS_some, updS_none, Nat.reduceEqDiff, ↓reduceIte]; exact sl5)), (by first | (go_simp; done) | exact sl6 | (simp only [updS_some, updS_none, Nat.reduceEqDiff, ↓reduceIte]; exact sl6)), (by first | (go_simp; done) | exact sl7 | (simp only [updS_some, updS_none, Nat.reduceEqDiff, ↓reduceIte]; exact sl7)), (by first | (go_simp; done) | exact sl9 | (simp only [updS_some, updS_none, Nat.reduceEqDiff, ↓reduceIte]; exact sl9)), by go_simp, hw8⟩
          clear sl1 sl3 sl5 sl6 sl7 sl9 hb hsb
          rintro s w8 ⟨sl1, sl3, sl5, sl6, sl7, sl9, sl128, hw8⟩
          have HB8 := hid (HBi.out.trans (hw8.mono HBi.out.size) : Below w7.heap.size w7 w8)
          clear hw8
          have hwi : IntKind.i64.wrap ((i : Int) + 1) = (i : Int) + 1 := IntWalk.i64_in _ (by omega)
          repeat (first | ((first | (refine listF_step rfl (fun K' hK => ?_)) | (refine listF_yes rfl rfl (by decide) ?_ (fun K' hK => ?_); (focus (go_simp; done)))); unfold opF; go_simp; (refine hK _ _ ?_); clear hK K') | (refine listF_no (b' := true) rfl rfl (by decide) ?_ ?_ ?_; (focus (go_simp; done)); (focus rfl)) | (refine listF_no (b' := false) rfl rfl (by decide) ?_ ?_ ?_; (focus (go_simp; done)); (focus rfl)) | (refine listF_nu rfl rfl (by decide) ?_ ?_; (focus (go_simp; done))) | (refine listF_nil ?_) | (refine region_F ?_) | (refine cond_F true ?_ ?_; (focus (go_simp; done)); simp only [if_true]) | (refine cond_F false ?_ ?_; (focus (go_simp; done)); simp only [Bool.false_eq_true, if_false]) | (with_reducible go_step))
          refine ⟨_, _, rfl, ?_, i + 1, rfl, by omega, (by first | (go_simp; done) | exact sl1 | (simp only [updS_some, updS_none, Nat.reduceEqDiff, ↓reduceIte]; exact sl1)), (by first | (go_simp; done) | exact sl3 | (simp only [updS_some, updS_none, Nat.reduceEqDiff, ↓reduceIte]; exact sl3)), (by first | (go_simp; done) | exact sl5 | (simp only [updS_some, updS_none, Nat.reduceEqDiff, ↓reduceIte]; exact sl5)), (by first | (go_simp; done) | exact sl6 | (simp only [updS_some, updS_none, Nat.reduceEqDiff, ↓reduceIte]; exact sl6)), (by first | (go_simp; done) | exact sl7 | (simp only [updS_some, updS_none, Nat.reduceEqDiff, ↓reduceIte]; exact sl7)), by go_simp, HB8.out⟩
          omega
        · have hie : i = qc.jobs.length := by omega
          clear hie
          have k3_0 := k3.cell 0 rfl
          have k3_1 := k3.cell 1 rfl
          have k3_s := k3.1
          repeat (first | ((first | (refine listF_step rfl (fun K' hK => ?_)) | (refine listF_yes rfl rfl (by decide) ?_ (fun K' hK => ?_); (focus (go_simp; done)))); unfold opF; go_simp; (refine hK _ _ ?_); clear hK K') | (refine listF_no (b' := true) rfl rfl (by decide) ?_ ?_ ?_; (focus (go_simp; done)); (focus rfl)) | (refine listF_no (b' := false) rfl rfl (by decide) ?_ ?_ ?_; (focus (go_simp; done)); (focus rfl)) | (refine listF_nu rfl rfl (by decide) ?_ ?_; (focus (go_simp; done))) | (refine listF_nil ?_) | (refine region_F ?_) | (refine cond_F true ?_ ?_; (focus (go_simp; done)); simp only [if_true]) | (refine cond_F false ?_ ?_; (focus (go_simp; done)); simp only [Bool.false_eq_true, if_false]) | (with_reducible go_step))
          repeat (first | (refine wp_seq_k (fun K' hK' => ?_)) | (refine wp_block ?_))
          clear k3_0 k3_1 k3_s
          refine cut_F (fun s wq => s 1 = .pointer (some ⟨w.heap.size, 0, none⟩) ∧ s 3 = .pointer (some ⟨B3, 0, none⟩) ∧ s 5 = .int .i64 Lg ∧ s 7 = .pointer (some ⟨B6 + 1, 0, none⟩) ∧ s 153 = .bool false ∧ Below wi.heap.size wi wq) ?_ ?_
          · by_cases hjp : 0 ≤ sp.job
            · have hkp := Hkp.out.2 hjp
              simp only at hkp
              obtain ⟨mm, hjm, hm, hcm, _⟩ := hkp
              unfold cand at hcm
              simp only [Bool.and_eq_true, beq_iff_eq] at hcm
              rw [Qu.st_eq hm] at hcm
              have hb := Hbq.out mm hm hcm.1
              have hsb := Hsb.out mm hm
              obtain ⟨x1, o1, rfl, hx1, d1, d2, d3, d4, d5⟩ := RdSts.ne hqc hm
              generalize qc.jobs[mm] = x at *
              rw [hjm] at k6
              have r1 : decide ((qc.jobs.length : Int) ≤ (mm : Int)) = false := decide_eq_false (by omega)
              have r1' : decide (qc.jobs.length ≤ mm) = false := decide_eq_false (by omega)
              have r2 : decide (Lg < qc.now - x.since) = false := decide_eq_false (by omega)
              have r3 : IntKind.i64.wrap (qc.now - x.since) = qc.now - x.since := IntWalk.i64_in _ (by omega)
              clear hb hsb hjm hcm hjp
              have k3_0 := k3.cell 0 rfl
              have k3_1 := k3.cell 1 rfl
              have k3_s := k3.1
              have k6_0 := k6.cell 0 rfl
              have k6_1 := k6.cell 1 rfl
              have k6_2 := k6.cell 2 rfl
              have k6_3 := k6.cell 3 rfl
              have k6_s := k6.1
              refine regionQ_F (Below wi.heap.size wi) (by kernel_rfl) (by kernel_rfl) (Below.refl _ _).drew ?_
              repeat (first | (refine listQ_step (v := ?_) rfl ?_ ?_; rotate_left; (focus (intro wq hwq; obtain ⟨hcq, hfq⟩ := bcell hwq; go_simp; (first | rfl | (exact ⟨rfl, rfl⟩) | (fail))))) | (refine listQ_yes (v := ?_) rfl rfl (by decide) ?_ ?_ ?_; rotate_left; (focus (go_simp; done)); (focus (intro wq hwq; obtain ⟨hcq, hfq⟩ := bcell hwq; go_simp; (first | rfl | (exact ⟨rfl, rfl⟩) | (fail))))) | (refine listQ_no (b' := true) rfl rfl (by decide) ?_ ?_ ?_; (focus (go_simp; done)); (focus rfl)) | (refine listQ_no (b' := false) rfl rfl (by decide) ?_ ?_ ?_; (focus (go_simp; done)); (focus rfl)) | (refine listQ_nu rfl rfl (by decide) ?_ ?_; (focus (go_simp; done))) | (refine listQ_nil ?_))
              intro w8 hw8
              exact ⟨rfl, _, rfl, (by first | (go_simp; done) | exact sl1 | (simp only [updS_some, updS_none, Nat.reduceEqDiff, ↓reduceIte]; exact sl1)), (by first | (go_simp; done) | exact sl3 | (simp only [updS_some, updS_none, Nat.reduceEqDiff, ↓reduceIte]; exact sl3)), (by first | (go_simp; done) | exact sl5 | (simp only [updS_some, updS_none, Nat.reduceEqDiff, ↓reduceIte]; exact sl5)), (by first | (go_simp; done) | exact sl7 | (simp only [updS_some, updS_none, Nat.reduceEqDiff, ↓reduceIte]; exact sl7)), by go_simp, hw8⟩
            · have r1 : decide (0 ≤ sp.job) = false := decide_eq_false hjp
              have k6_0 := k6.cell 0 rfl
              have k6_1 := k6.cell 1 rfl
              have k6_2 := k6.cell 2 rfl
              have k6_3 := k6.cell 3 rfl
              have k6_s := k6.1
              refine regionQ_F (Below wi.heap.size wi) (by kernel_rfl) (by kernel_rfl) (Below.refl _ _).drew ?_
              repeat (first | (refine listQ_step (v := ?_) rfl ?_ ?_; rotate_left; (focus (intro wq hwq; obtain ⟨hcq, hfq⟩ := bcell hwq; go_simp; (first | rfl | (exact ⟨rfl, rfl⟩) | (fail))))) | (refine listQ_yes (v := ?_) rfl rfl (by decide) ?_ ?_ ?_; rotate_left; (focus (go_simp; done)); (focus (intro wq hwq; obtain ⟨hcq, hfq⟩ := bcell hwq; go_simp; (first | rfl | (exact ⟨rfl, rfl⟩) | (fail))))) | (refine listQ_no (b' := true) rfl rfl (by decide) ?_ ?_ ?_; (focus (go_simp; done)); (focus rfl)) | (refine listQ_no (b' := false) rfl rfl (by decide) ?_ ?_ ?_; (focus (go_simp; done)); (focus rfl)) | (refine listQ_nu rfl rfl (by decide) ?_ ?_; (focus (go_simp; done))) | (refine listQ_nil ?_))
              intro w8 hw8
              exact ⟨rfl, _, rfl, (by first | (go_simp; done) | exact sl1 | (simp only [updS_some, updS_none, Nat.reduceEqDiff, ↓reduceIte]; exact sl1)), (by first | (go_simp; done) | exact sl3 | (simp only [updS_some, updS_none, Nat.reduceEqDiff, ↓reduceIte]; exact sl3)), (by first | (go_simp; done) | exact sl5 | (simp only [updS_some, updS_none, Nat.reduceEqDiff, ↓reduceIte]; exact sl5)), (by first | (go_simp; done) | exact sl7 | (simp only [updS_some, updS_none, Nat.reduceEqDiff, ↓reduceIte]; exact sl7)), by go_simp, hw8⟩
          clear sl1 sl3 sl5 sl6 sl7 sl9
          rintro s w8 ⟨sl1, sl3, sl5, sl7, sl153, hw8⟩
          replace k1 := k1.at hw8
          replace k3 := k3.at hw8
          replace k7 := k7.at hw8
          replace hqn := Rd.at hqn hw8
          have HB8 := hid (HBw.out.trans (hw8.mono HBw.out.size) : Below w.heap.size w w8)
          clear hw8
          have k3_0 := k3.cell 0 rfl
          have k3_1 := k3.cell 1 rfl
          have k3_s := k3.1
          have k7_0 := k7.cell 0 rfl
          have k7_1 := k7.cell 1 rfl
          have k7_s := k7.1
          have k3_z := k3.2.2
          repeat (first | ((first | (refine listF_step rfl (fun K' hK => ?_)) | (refine listF_yes rfl rfl (by decide) ?_ (fun K' hK => ?_); (focus (go_simp; done)))); unfold opF; go_simp; (refine hK _ _ ?_); clear hK K') | (refine listF_no (b' := true) rfl rfl (by decide) ?_ ?_ ?_; (focus (go_simp; done)); (focus rfl)) | (refine listF_no (b' := false) rfl rfl (by decide) ?_ ?_ ?_; (focus (go_simp; done)); (focus rfl)) | (refine listF_nu rfl rfl (by decide) ?_ ?_; (focus (go_simp; done))) | (refine listF_nil ?_) | (refine region_F ?_) | (refine cond_F true ?_ ?_; (focus (go_simp; done)); simp only [if_true]) | (refine cond_F false ?_ ?_; (focus (go_simp; done)); simp only [Bool.false_eq_true, if_false]) | (with_reducible go_step))
          refine ⟨m', _, rfl, by omega, lst ++ [sp], qn, a', c', HDn.out, HWn.out, (by first | (go_simp; done) | exact sl1 | (simp only [updS_some, updS_none, Nat.reduceEqDiff, ↓reduceIte]; exact sl1)), (by first | (go_simp; done) | exact sl3 | (simp only [updS_some, updS_none, Nat.reduceEqDiff, ↓reduceIte]; exact sl3)), (by first | (go_simp; done) | exact sl5 | (simp only [updS_some, updS_none, Nat.reduceEqDiff, ↓reduceIte]; exact sl5)), (by apply Cells.conv; (focus (repeat (first | (with_reducible exact k3) | (with_reducible apply Cells.set) | ((with_reducible apply Cells.setFar); case hn => omega) | (with_reducible apply Cells.up) | (with_reducible apply Cells.drew)))); rfl), Rd.two hqn Hfr.out, (k1.setFar (by omega)).setFar (by omega), (by repeat (first | (with_reducible exact HB8.out) | (with_reducible refine bdrewN ?_ _) | (with_reducible refine Below.drew ?_) | (with_reducible refine Below.setCell ?_ (by first | omega | (simp; done) | (simp; omega)) _) | (with_reducible refine Below.alloc ?_ (by first | omega | (simp; done) | (simp; omega)) _)))⟩
      · rw [hc] at sl59
        repeat (first | ((first | (refine listF_step rfl (fun K' hK => ?_)) | (refine listF_yes rfl rfl (by decide) ?_ (fun K' hK => ?_); (focus (go_simp; done)))); unfold opF; go_simp; (refine hK _ _ ?_); clear hK K') | (refine listF_no (b' := true) rfl rfl (by decide) ?_ ?_ ?_; (focus (go_simp; done)); (focus rfl)) | (refine listF_no (b' := false) rfl rfl (by decide) ?_ ?_ ?_; (focus (go_simp; done)); (focus rfl)) | (refine listF_nu rfl rfl (by decide) ?_ ?_; (focus (go_simp; done))) | (refine listF_nil ?_) | (refine region_F ?_) | (refine cond_F true ?_ ?_; (focus (go_simp; done)); simp only [if_true]) | (refine cond_F false ?_ ?_; (focus (go_simp; done)); simp only [Bool.false_eq_true, if_false]) | (with_reducible go_step))
        (refine listF_step rfl (fun K' hK => ?_); unfold opF; go_simp; refine (awake_any _).mono ?_; rintro e w9 ⟨rfl, hb9⟩; refine ⟨_, rfl, hK _ _ ?_⟩; clear hK K')
        repeat (first | ((first | (refine listF_step rfl (fun K' hK => ?_)) | (refine listF_yes rfl rfl (by decide) ?_ (fun K' hK => ?_); (focus (go_simp; done)))); unfold opF; go_simp; (refine hK _ _ ?_); clear hK K') | (refine listF_no (b' := true) rfl rfl (by decide) ?_ ?_ ?_; (focus (go_simp; done)); (focus rfl)) | (refine listF_no (b' := false) rfl rfl (by decide) ?_ ?_ ?_; (focus (go_simp; done)); (focus rfl)) | (refine listF_nu rfl rfl (by decide) ?_ ?_; (focus (go_simp; done))) | (refine listF_nil ?_) | (refine region_F ?_) | (refine cond_F true ?_ ?_; (focus (go_simp; done)); simp only [if_true]) | (refine cond_F false ?_ ?_; (focus (go_simp; done)); simp only [Bool.false_eq_true, if_false]) | (with_reducible go_step))
        exact ret_F (.bool true) (res1_F Try.results9 (by decide) (by go_simp)) ⟨rfl, HB5.out.trans (hb9.mono HB5.out.size)⟩
    · have hn0 : ((W.jobs.length : Int) == 0) = true := beq_iff_eq.2 (by omega)
      repeat (first | ((first | (refine listF_step rfl (fun K' hK => ?_)) | (refine listF_yes rfl rfl (by decide) ?_ (fun K' hK => ?_); (focus (go_simp; done)))); unfold opF; go_simp; (refine hK _ _ ?_); clear hK K') | (refine listF_no (b' := true) rfl rfl (by decide) ?_ ?_ ?_; (focus (go_simp; done)); (focus rfl)) | (refine listF_no (b' := false) rfl rfl (by decide) ?_ ?_ ?_; (focus (go_simp; done)); (focus rfl)) | (refine listF_nu rfl rfl (by decide) ?_ ?_; (focus (go_simp; done))) | (refine listF_nil ?_) | (refine region_F ?_) | (refine cond_F true ?_ ?_; (focus (go_simp; done)); simp only [if_true]) | (refine cond_F false ?_ ?_; (focus (go_simp; done)); simp only [Bool.false_eq_true, if_false]) | (with_reducible go_step))
      (refine listF_step rfl (fun K' hK => ?_); unfold opF; go_simp; refine (awake_any _).mono ?_; rintro e w9 ⟨rfl, hb9⟩; refine ⟨_, rfl, hK _ _ ?_⟩; clear hK K')
      have hsx := HB1.out.size
      have HBx := hid (Below.trans ((by repeat (first | (with_reducible exact HB1.out) | (with_reducible refine bdrewN ?_ _) | (with_reducible refine Below.drew ?_) | (with_reducible refine Below.setCell ?_ (by first | omega | (simp; done) | (simp; omega)) _) | (with_reducible refine Below.alloc ?_ (by first | omega | (simp; done) | (simp; omega)) _)))) (hb9.mono (by have := HB1.out.size; simp; omega)) : Below w.heap.size w w9)
      repeat (first | ((first | (refine listF_step rfl (fun K' hK => ?_)) | (refine listF_yes rfl rfl (by decide) ?_ (fun K' hK => ?_); (focus (go_simp; done)))); unfold opF; go_simp; (refine hK _ _ ?_); clear hK K') | (refine listF_no (b' := true) rfl rfl (by decide) ?_ ?_ ?_; (focus (go_simp; done)); (focus rfl)) | (refine listF_no (b' := false) rfl rfl (by decide) ?_ ?_ ?_; (focus (go_simp; done)); (focus rfl)) | (refine listF_nu rfl rfl (by decide) ?_ ?_; (focus (go_simp; done))) | (refine listF_nil ?_) | (refine region_F ?_) | (refine cond_F true ?_ ?_; (focus (go_simp; done)); simp only [if_true]) | (refine cond_F false ?_ ?_; (focus (go_simp; done)); simp only [Bool.false_eq_true, if_false]) | (with_reducible go_step))
      exact ret_F (.bool true) (res1_F Try.results9 (by decide) (by go_simp)) ⟨rfl, HBx.out⟩
  · have hE' : (W.err != 0) = true := by simp [he]
    clear he
    repeat (first | ((first | (refine listF_step rfl (fun K' hK => ?_)) | (refine listF_yes rfl rfl (by decide) ?_ (fun K' hK => ?_); (focus (go_simp; done)))); unfold opF; go_simp; (refine hK _ _ ?_); clear hK K') | (refine listF_no (b' := true) rfl rfl (by decide) ?_ ?_ ?_; (focus (go_simp; done)); (focus rfl)) | (refine listF_no (b' := false) rfl rfl (by decide) ?_ ?_ ?_; (focus (go_simp; done)); (focus rfl)) | (refine listF_nu rfl rfl (by decide) ?_ ?_; (focus (go_simp; done))) | (refine listF_nil ?_) | (refine region_F ?_) | (refine cond_F true ?_ ?_; (focus (go_simp; done)); simp only [if_true]) | (refine cond_F false ?_ ?_; (focus (go_simp; done)); simp only [Bool.false_eq_true, if_false]) | (with_reducible go_step))
    (refine listF_step rfl (fun K' hK => ?_); unfold opF; go_simp; refine (awake_any _).mono ?_; rintro e w9 ⟨rfl, hb9⟩; refine ⟨_, rfl, hK _ _ ?_⟩; clear hK K')
    have hsx := HB1.out.size
    have HBx := hid (Below.trans ((by repeat (first | (with_reducible exact HB1.out) | (with_reducible refine bdrewN ?_ _) | (with_reducible refine Below.drew ?_) | (with_reducible refine Below.setCell ?_ (by first | omega | (simp; done) | (simp; omega)) _) | (with_reducible refine Below.alloc ?_ (by first | omega | (simp; done) | (simp; omega)) _)))) (hb9.mono (by have := HB1.out.size; simp; omega)) : Below w.heap.size w w9)
    repeat (first | ((first | (refine listF_step rfl (fun K' hK => ?_)) | (refine listF_yes rfl rfl (by decide) ?_ (fun K' hK => ?_); (focus (go_simp; done)))); unfold opF; go_simp; (refine hK _ _ ?_); clear hK K') | (refine listF_no (b' := true) rfl rfl (by decide) ?_ ?_ ?_; (focus (go_simp; done)); (focus rfl)) | (refine listF_no (b' := false) rfl rfl (by decide) ?_ ?_ ?_; (focus (go_simp; done)); (focus rfl)) | (refine listF_nu rfl rfl (by decide) ?_ ?_; (focus (go_simp; done))) | (refine listF_nil ?_) | (refine region_F ?_) | (refine cond_F true ?_ ?_; (focus (go_simp; done)); simp only [if_true]) | (refine cond_F false ?_ ?_; (focus (go_simp; done)); simp only [Bool.false_eq_true, if_false]) | (with_reducible go_step))
    exact ret_F (.bool true) (res1_F Try.results9 (by decide) (by go_simp)) ⟨rfl, HBx.out⟩

end Go.Proofs.Ytbjgebbfachgfaa
