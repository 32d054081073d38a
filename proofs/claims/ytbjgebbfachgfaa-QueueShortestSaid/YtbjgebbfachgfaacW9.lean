/- Begin. -/
import Derived.Test.YtbjgebbfachgfaacJ2
set_option linter.unusedVariables false
set_option linter.unusedSimpArgs false
set_option linter.unusedSectionVars false
set_option linter.all false
namespace Go.Proofs.Ytbjgebbfachgfaa
open Go.RowKit

def begSt (j : Job) : St := ⟨0, j.arrive, 0, 0, -1⟩

set_option maxRecDepth 100000 in
set_option maxHeartbeats 3200000 in
theorem rbegin_any (W : Work) (aj af : Option Addr) (cj cf : Nat) (w : World) (hW : WorkIn w W aj af) (h12 : W.jobs.length ≤ 12) :
    Calls Try.prog 50 #[.agg #[.int .i64 W.rules.slice, .int .i64 W.rules.load, .int .i64 W.rules.dump, .int .i64 W.rules.patience, .int .i64 W.rules.rate, .slice aj W.jobs.length cj, .slice af W.faults.length cf]] w fun e w' => ∃ v, e = .returned (.agg #[.int .i64 0, v]) ∧ OwnSts (w.heap.size + 3) w' v (W.jobs.map begSt) ∧ Below w.heap.size w w' := by
  have HW := hid hW
  clear hW
  obtain ⟨i0, hi0, hz0, hz1, hz2⟩ := info_parts info_st
  go_enter Try.func50, Try.ntmps50
  go_wp2_with fail
  go_loopw [4] (fun i wr => ∃ k : Nat, ∃ v : Value, k ≤ W.jobs.length ∧ i = .int .i64 k ∧ wr.cell? ⟨w.heap.size + 1 + 1, 0, none⟩ = some (.int .i64 0) ∧ wr.cell? ⟨w.heap.size + 1 + 1, 1, none⟩ = some v ∧ wr.frozen? ⟨w.heap.size + 1 + 1, 1, none⟩ = false ∧
      Hid (OwnSts (w.heap.size + 3) wr v ((W.jobs.take k).map begSt)) ∧ w.heap.size + 3 ≤ wr.heap.size ∧ Below (w.heap.size + 2) ((w.alloc (.cells #[.int .i64 W.rules.slice, .int .i64 W.rules.load, .int .i64 W.rules.dump, .int .i64 W.rules.patience, .int .i64 W.rules.rate, .slice aj W.jobs.length cj, .slice af W.faults.length cf] 27)).alloc (.cells #[.int .i64 0, .slice none 0 0] 33)) wr) (fun i _ => W.jobs.length - (intOf i).toNat)
  case atStart =>
    refine ⟨0, .slice none 0 0, Nat.zero_le _, rfl, ?_, ?_, ?_, hid (Own.nil _ _ _ _ _), by simp, (Below.refl _ _).alloc (by simp) _⟩ <;> go_simp
  case round =>
    obtain ⟨k, v, hk, rfl, q0, q1, q2, hO, hsz, hB⟩ := hrel
    obtain ⟨hc, hf⟩ := bcell hB
    by_cases hlt : k < W.jobs.length
    · obtain ⟨b, off, rfl, hb, d1, d2, d3, d4⟩ := RdJobs.ne HW.out.jobs hlt
      have hb2 : b < w.heap.size + 2 := by omega
      have hb3 : b < wr.heap.size := by omega
      have hs0 : w.heap.size < wr.heap.size := by omega
      have hs1 : w.heap.size + 1 < wr.heap.size := by omega
      have hs2 : w.heap.size + 1 + 1 < wr.heap.size := by omega
      have ho : wr.ownsRow (w.heap.size + 3) 70 5 v k (((W.jobs.take k).map begSt).flatMap St.cs) := by have := hO.out; unfold OwnSts Own at this; rw [show ((W.jobs.take k).map begSt).length = k by simp; omega] at this; exact this
      have hbl : ∀ c : Nat, c < w.heap.size + 3 → some c ≠ v.ownBlock := fun c hc e => by have := (World.ownsRow.lt ho _ e.symm).1; omega
      have hk1 : ∀ (O : Obj) (w1 : World), (wr.alloc O).drew.grownBy w1 v.ownBlock → w1.cell? ⟨w.heap.size + 1 + 1, 1, none⟩ = some v ∧ w1.cell? ⟨w.heap.size, 5, none⟩ = some (.slice (some ⟨b, off, none⟩) W.jobs.length cj) ∧ w1.cell? ⟨b, off + k * 4 + 1, none⟩ = some (.int .i64 W.jobs[k].arrive) ∧ w1.frozen? ⟨w.heap.size + 1 + 1, 1, none⟩ = false ∧ w1.cell? ⟨w.heap.size + 1 + 1, 0, none⟩ = some (.int .i64 0) := by
        intro O w1 hg
        refine ⟨?_, ?_, ?_, ?_, ?_⟩
        · rw [hg.cell_far _ (by simp <;> omega) (hbl _ (by simp <;> omega))]; go_simp
        · rw [hg.cell_far _ (by simp <;> omega) (hbl _ (by simp <;> omega))]; go_simp
        · rw [hg.cell_far _ (by simp <;> omega) (hbl _ (by simp <;> omega))]; go_simp
        · rw [hg.frozen_far _ (by simp <;> omega) (hbl _ (by simp <;> omega))]; go_simp
        · rw [hg.cell_far _ (by simp <;> omega) (hbl _ (by simp <;> omega))]; go_simp
      have Hbl := hid hbl; clear hbl
      have Hk1 := hid hk1; clear hk1
      go_wp2_with fail
      go_region_law (first | (refine step_append_lies _ (by rfl) _ _ _ (by rfl) (w.heap.size + 3) 70 i0 _ 5 40 Try.underlying31 hi0 hz0 hz1 hz2 rfl (by omega) v k _ (by rfl) (ho.alloc _).drew ⟨wr.heap.size, 0, none⟩ 1 1 [.int .i64 0, .int .i64 W.jobs[k].arrive, .int .i64 0, .int .i64 0, .int .i64 (-1)] (by rfl) (by rfl) (World.news_of_block (cs := #[.int .i64 0, .int .i64 W.jobs[k].arrive, .int .i64 0, .int .i64 0, .int .i64 (-1)]) (t := 70) (fr := (0, 0)) (heap_alloc_new wr _)) (by simp [Value.oneCell']) (by omega) (by unfold maxLen; omega) (by omega) (by simp; omega) (wr.heap.size + 1) (by simp) ?_; intro gg cap2 w1 hown1 hgrow hat hlt2; obtain ⟨f1, f2, f3, f4, f5⟩ := Hk1.out _ _ hgrow))
      all_goals
        have hs3 : wr.heap.size < w1.heap.size := by have := hgrow.size; simp at this; omega
        have hgg : w.heap.size + 3 ≤ gg := by rcases hat with h | h; (exact (World.ownsRow.lt ho _ h).1); omega
        clear f2 f3 hc hf
        go_wp2_with fail
        go_roundw
        case rel =>
          refine ⟨k + 1, .slice (some ⟨gg, 0, none⟩) (k + 1) cap2, by omega, by go_num, ?_, ?_, ?_, hid (Own.setCell (Own.of (n := k + 1) (by simp; omega) ?_ hown1) (by simp <;> omega) _), by simp <;> omega, ((hB.alloc (by omega) _).drew.grown hgrow (by simp <;> omega) (fun j hj => by have := (World.ownsRow.lt ho _ hj).1; omega)).setCell (by simp) _⟩
          · go_simp
          · go_simp
          · go_simp
          · rw [List.take_succ_eq_append_getElem hlt, List.map_append, List.flatMap_append]; rfl
        case measure => simp [intOf]; omega
    · have e1 : wr.cell? ⟨w.heap.size + 1, 0, none⟩ = some (.int .i64 0) := by go_simp
      have e2 : wr.cell? ⟨w.heap.size + 1, 1, none⟩ = some (.slice none 0 0) := by go_simp
      have e3 : wr.frozen? ⟨w.heap.size + 1, 0, none⟩ = false := by go_simp
      have e4 : wr.frozen? ⟨w.heap.size + 1, 1, none⟩ = false := by go_simp
      have hkl : k = W.jobs.length := by omega
      have hOf := hO.out
      rw [hkl, List.take_length] at hOf
      have HOf := hid hOf; clear hOf hkl
      have hB0 : Below w.heap.size w wr := (((Below.refl _ w).alloc (Nat.le_refl _) _).alloc (by simp) _).trans (hB.mono (by omega))
      rcases Own.formN HOf.out (n := W.jobs.length) (by simp) with ⟨rfl, hl0, hk0⟩ | ⟨g, cap, rfl, hg1, hg2, ho⟩
      · go_wp2_with fail
        refine bodyPost_ret (v := .agg #[.int .i64 0, .slice none 0 0]) ?_ rfl ?_
        · simp only [results, Try.results50]; go_simp
        · exact ⟨_, rfl, (HOf.out.setCell (by simp) _).setCell (by simp) _, (hB0.setCell (by simp) _).setCell (by simp) _⟩
      · go_wp2_with fail
        refine bodyPost_ret (v := .agg #[.int .i64 0, .slice (some ⟨g, 0, none⟩) W.jobs.length cap]) ?_ rfl ?_
        · simp only [results, Try.results50]; go_simp
        · exact ⟨_, rfl, (HOf.out.setCell (by simp) _).setCell (by simp) _, (hB0.setCell (by simp) _).setCell (by simp) _⟩
end Go.Proofs.Ytbjgebbfachgfaa
