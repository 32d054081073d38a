/- spell, Work, Ints, Totals, repairs, valid. -/
import Derived.Test.YtbjgebbfachgfaacJ3
set_option linter.unusedVariables false
set_option linter.unusedSimpArgs false
set_option linter.unusedSectionVars false
set_option linter.all false
namespace Go.Proofs.Ytbjgebbfachgfaa
open Go.RowKit

theorem load_work {w : World} {b o : Nat} {x0 x1 x2 x3 x4 x5 x6 : Value} (h0 : w.cell? ⟨b, o, none⟩ = some x0) (h1 : w.cell? ⟨b, o + 1, none⟩ = some x1) (h2 : w.cell? ⟨b, o + 2, none⟩ = some x2) (h3 : w.cell? ⟨b, o + 3, none⟩ = some x3)
    (h4 : w.cell? ⟨b, o + 4, none⟩ = some x4) (h5 : w.cell? ⟨b, o + 5, none⟩ = some x5) (h6 : w.cell? ⟨b, o + 6, none⟩ = some x6) :
    (loadVar 27 ⟨b, o, none⟩).run Try.prog w = .ok (.agg #[x0, x1, x2, x3, x4, x5, x6]) w := by
  simp [go_sem, h0, h1, h2, h3, h4, h5, h6]

set_option maxHeartbeats 1000000 in
theorem spell_any (a b c d : Int) (w : World) :
    Calls Try.prog 35 #[.int .i64 a, .int .i64 b, .int .i64 c, .int .i64 d] w fun e w' => e = .returned (.agg #[.int .i64 a, .int .i64 b, .int .i64 c, .int .i64 d]) ∧ Below w.heap.size w w' := by
  go_enter Try.func35, Try.ntmps35
  go_wp2_with fail
  refine bodyPost_ret (v := .agg #[.int .i64 a, .int .i64 b, .int .i64 c, .int .i64 d]) (res_c Try.results35 rfl (load_spell ?_ ?_ ?_ ?_)) rfl ⟨rfl, (by repeat (first | (with_reducible exact Below.refl _ _) | (with_reducible refine bdrewN ?_ _) | (with_reducible refine Below.drew ?_) | (with_reducible refine Below.setCell ?_ (by first | omega | (simp; done) | (simp; omega)) _) | (with_reducible refine Below.alloc ?_ (by first | omega | (simp; done) | (simp; omega)) _)))⟩
  all_goals go_simp

set_option maxHeartbeats 1000000 in
theorem rints_any (a b : Option Addr) (ca cb : Nat) (x y : List Int) (w : World) (hx : x.length ≤ 9223372036854775807) (hy : y.length ≤ 9223372036854775807) (ha : RdInts w a x) (hb : RdInts w b y) :
    Calls Try.prog 29 #[.slice a x.length ca, .slice b y.length cb] w fun e w' => e = .returned (.bool (decide (x = y))) ∧ Below w.heap.size w w' := by
  go_enter Try.func29, Try.ntmps29
  go_wp2_with (go_at_call 59; refine (r4ints_any a b ca cb x y _ hx hy ha hb).mono ?_; rintro e w1 ⟨rfl, hb1⟩)
  go_ret
  exact ⟨rfl, hb1⟩

def exJobs : List Job := [⟨⟨#[97]⟩, 0, 25, 25⟩, ⟨⟨#[98]⟩, 1, 8, 5⟩, ⟨⟨#[99]⟩, 2, 4, 9⟩]
def exRules : Rules := ⟨10, 2, 1, 30, 5⟩
def exWork : Work := ⟨exRules, exJobs, []⟩

set_option maxHeartbeats 1000000 in
theorem lwork_any (w : World) :
    Calls Try.prog 34 #[] w fun e w' => ∃ b, e = .returned (.agg #[.int .i64 10, .int .i64 2, .int .i64 1, .int .i64 30, .int .i64 5, .slice (some ⟨b, 0, none⟩) 3 3, .slice none 0 0]) ∧ w.heap.size ≤ b ∧ RdJobs w' (some ⟨b, 0, none⟩) exJobs ∧ Below w.heap.size w w' := by
  go_enter Try.func34, Try.ntmps34
  go_wp2_with fail
  refine bodyPost_ret (v := .agg #[.int .i64 10, .int .i64 2, .int .i64 1, .int .i64 30, .int .i64 5, .slice (some ⟨w.heap.size + 1, 0, none⟩) 3 3, .slice none 0 0]) (res_c Try.results34 rfl (load_work ?_ ?_ ?_ ?_ ?_ ?_ ?_)) rfl ?_
  case refine_8 =>
    refine ⟨_, rfl, by omega, .inr ⟨_, 0, rfl, (by first | omega | (simp; done) | (simp; omega)), ?_⟩, (by repeat (first | (with_reducible exact Below.refl _ _) | (with_reducible refine bdrewN ?_ _) | (with_reducible refine Below.drew ?_) | (with_reducible refine Below.setCell ?_ (by first | omega | (simp; done) | (simp; omega)) _) | (with_reducible refine Below.alloc ?_ (by first | omega | (simp; done) | (simp; omega)) _)))⟩
    intro i x hx j v hv
    have hi : i < 3 := by
      rcases Nat.lt_or_ge i 3 with h | h
      · exact h
      · rw [List.getElem?_eq_none (by simpa [exJobs] using h)] at hx; cases hx
    have hj : j < 4 := by
      rcases Nat.lt_or_ge j 4 with h | h
      · exact h
      · rw [List.getElem?_eq_none (by simpa [Job.cs] using h)] at hv; cases hv
    rcases i with _ | _ | _ | i
    · cases hx; rcases j with _ | _ | _ | _ | j <;> first | (cases hv; go_simp) | omega
    · cases hx; rcases j with _ | _ | _ | _ | j <;> first | (cases hv; go_simp) | omega
    · cases hx; rcases j with _ | _ | _ | _ | j <;> first | (cases hv; go_simp) | omega
    · omega
  all_goals go_simp

set_option maxRecDepth 100000 in
set_option maxHeartbeats 2000000 in
theorem repairs_any (W : Work) (aj af : Option Addr) (cj cf : Nat) (w : World) (hfl : RdFaults w af W.faults) (hK : WOk W) :
    Calls Try.prog 38 #[.agg #[.int .i64 W.rules.slice, .int .i64 W.rules.load, .int .i64 W.rules.dump, .int .i64 W.rules.patience, .int .i64 W.rules.rate, .slice aj W.jobs.length cj, .slice af W.faults.length cf]] w fun e w' => e = .returned (.int .i64 ((W.faults.length : Int) * W.rules.turn + (W.faults.map Fault.rep).sum)) ∧ Below w.heap.size w w' := by
  have hr : W.rules.ok = true := hK.rules
  have hr' : Rules.ok ⟨W.rules.slice, W.rules.load, W.rules.dump, W.rules.patience, W.rules.rate⟩ = true := hr
  obtain ⟨⟨b1, b2⟩, ⟨b3, b4⟩, ⟨b5, b6⟩, _, _⟩ := hK.rb
  have hcall := fun w => rturn_any W.rules.slice W.rules.load W.rules.dump W.rules.patience W.rules.rate w hr'
  change ∀ w, Calls _ _ _ _ (fun e w' => e = .returned (.int .i64 W.rules.turn) ∧ _) at hcall
  have Hcall := hid hcall; clear hcall
  have ht : 1 ≤ W.rules.turn ∧ W.rules.turn ≤ 660 := by unfold Rules.turn; omega
  obtain ⟨t1, t2⟩ := ht
  have hlf := hK.fl
  have m1 : 0 ≤ (W.faults.length : Int) * W.rules.turn := Int.mul_nonneg (by omega) (by omega)
  have m2 : (W.faults.length : Int) * W.rules.turn ≤ 20 * 660 := Int.mul_le_mul (by omega) t2 (by omega) (by omega)
  have s1 : IntKind.i64.wrap ((W.faults.length : Int) * W.rules.turn) = (W.faults.length : Int) * W.rules.turn := IntWalk.i64_in _ (by omega)
  go_enter Try.func38, Try.ntmps38
  go_wp2_with fail
  go_region_held3 (fun w' => w'.cell? ⟨w.heap.size, 0, none⟩ = some (.int .i64 W.rules.slice) ∧ w'.cell? ⟨w.heap.size, 1, none⟩ = some (.int .i64 W.rules.load) ∧ w'.cell? ⟨w.heap.size, 2, none⟩ = some (.int .i64 W.rules.dump) ∧ w'.cell? ⟨w.heap.size, 3, none⟩ = some (.int .i64 W.rules.patience) ∧ w'.cell? ⟨w.heap.size, 4, none⟩ = some (.int .i64 W.rules.rate) ∧ w'.cell? ⟨w.heap.size, 6, none⟩ = some (.slice af W.faults.length cf))
    (first | (go_simp; done))
    (first | (go_at_call 60; refine (Hcall.out _).mono ?_; rintro e w' ⟨rfl, rfl⟩))
  clear s1
  go_wp2_with fail
  go_loop [3, 4] (fun t i => ∃ k : Nat, ∃ s : Int, k ≤ W.faults.length ∧ i = .int .i64 k ∧ t = .int .i64 ((W.faults.length : Int) * W.rules.turn + s) ∧ 0 ≤ s ∧ s ≤ 5000 * k ∧ Hid (s = ((W.faults.take k).map Fault.rep).sum)) (fun _ i => W.faults.length - (intOf i).toNat)
  case atStart => exact ⟨0, 0, Nat.zero_le _, rfl, by simp, by omega, by omega, hid rfl⟩
  case round =>
    obtain ⟨k, s, hk, rfl, rfl, hs1, hs2, hs⟩ := hrel
    by_cases hlt : k < W.faults.length
    · obtain ⟨b, off, rfl, hb, d1, d2⟩ := RdFaults.ne hfl hlt
      obtain ⟨_, ⟨z1, z2⟩, _⟩ := hK.fb hlt
      go_wp2_with fail
      go_round
      case rel =>
        refine ⟨k + 1, s + W.faults[k].rep, by omega, by go_num, by rw [Int.add_assoc], by omega, by omega, hid ?_⟩
        rw [List.take_succ_eq_append_getElem hlt, List.map_append, List.sum_append, ← hs.out]; simp only [List.map_cons, List.map_nil, List.sum_cons, List.sum_nil, Int.add_zero]
      case measure => simp [intOf]; omega
    · go_wp2_with fail
      go_ret
      refine ⟨ret_int ?_, (by repeat (first | (with_reducible exact Below.refl _ _) | (with_reducible refine bdrewN ?_ _) | (with_reducible refine Below.drew ?_) | (with_reducible refine Below.setCell ?_ (by first | omega | (simp; done) | (simp; omega)) _) | (with_reducible refine Below.alloc ?_ (by first | omega | (simp; done) | (simp; omega)) _)))⟩
      have := hs.out
      rw [List.take_of_length_le (by omega)] at this
      rw [this]
end Go.Proofs.Ytbjgebbfachgfaa
