/- Begin, the reference's and the program's. -/
import Derived.Test.YtbjgebbfachgfaacW9
import Derived.Test.YtbjgebbfachgfaacJ3
set_option linter.unusedVariables false
set_option linter.unusedSimpArgs false
set_option linter.unusedSectionVars false
set_option linter.all false
namespace Go.Proofs.Ytbjgebbfachgfaa
open Go.RowKit

theorem Own.base {α : Type} {f : α → List Value} {m : Nat} {T : TypeId} {base base' : Nat} {w : World} {v : Value} {l : List α} (h : Own f m T base w v l) (hb : base' ≤ base) : Own f m T base' w v l := by
  refine ⟨h.1, ?_⟩
  rcases h.2 with hn | ⟨g, cap, cur, hv, hg, rest⟩
  · exact .inl hn
  · exact .inr ⟨g, cap, cur, hv, by omega, rest⟩

def begJobs (W : Work) : List St := if W.err = 0 then W.jobs.map begSt else []

set_option maxRecDepth 100000 in
set_option maxHeartbeats 2000000 in
theorem rBegin_any (W : Work) (aj af : Option Addr) (cj cf : Nat) (w : World) (hW : WorkIn w W aj af) :
    Calls Try.prog 19 #[.agg #[.int .i64 W.rules.slice, .int .i64 W.rules.load, .int .i64 W.rules.dump, .int .i64 W.rules.patience, .int .i64 W.rules.rate, .slice aj W.jobs.length cj, .slice af W.faults.length cf]] w fun e w' => ∃ v, e = .returned (.tuple #[.agg #[.int .i64 0, v], .int .i64 W.err]) ∧ OwnSts w.heap.size w' v (begJobs W) ∧ Below w.heap.size w w' := by
  have HB1 := hid (((Below.refl _ w).alloc (Nat.le_refl _) (.cells #[.int .i64 W.rules.slice, .int .i64 W.rules.load, .int .i64 W.rules.dump, .int .i64 W.rules.patience, .int .i64 W.rules.rate, .slice aj W.jobs.length cj, .slice af W.faults.length cf] 27)).alloc (by simp) (.cells #[.int .i64 0, .slice none 0 0] 33))
  go_enter Try.func19, Try.ntmps19
  go_wp2_with fail
  refine (rcheck_any W aj af cj cf _ (hW.at HB1.out)).mono ?_
  rintro e w2 ⟨rfl, hb2⟩
  have HB2 := hid (HB1.out.trans (hb2.mono HB1.out.size))
  have hs2 : w.heap.size + 1 < w2.heap.size := by have := hb2.size; simp at this; omega
  have hs1 : w.heap.size < w2.heap.size := by omega
  obtain ⟨hc2, hf2⟩ := bcell hb2
  by_cases he : W.err = 0
  · have he' : ((check W).2.2 == 0) = true := by unfold Work.err at he; simp [he]
    have he2 : ((check W).2.2 != 0) = false := by unfold Work.err at he; simp [he]
    have Hfin : Hid (begJobs W = W.jobs.map begSt) := by show begJobs W = _; simp [begJobs, he]
    have Hk := hid (wok_of_err he)
    have He := hid he
    clear he
    go_wp2_with fail
    refine (rbegin_any W aj af cj cf _ (hW.at HB2.out) Hk.out.jl).mono ?_
    rintro e w3 ⟨v, rfl, ho, hb3⟩
    have HB3 := hid (HB2.out.trans (hb3.mono HB2.out.size))
    have hs3 : w.heap.size + 1 < w3.heap.size := by have := hb3.size; omega
    obtain ⟨hc3, hf3⟩ := bcell hb3
    rcases Own.formN ho (n := W.jobs.length) (by simp) with ⟨rfl, hl0, hk0⟩ | ⟨g, cap, rfl, hg1, hg2, _⟩
    · have Ho := hid ho; clear ho
      go_wp2_with fail
      refine bodyPost_ret (v := .tuple #[.agg #[.int .i64 0, .slice none 0 0], .int .i64 0]) ?_ rfl ?_
      · simp only [results, Try.results19]; go_simp
      · rw [He.out, Hfin.out]
        exact ⟨_, rfl, ((Ho.out.setCell (by simp <;> omega) _).setCell (by simp <;> omega) _).base (by omega), (HB3.out.setCell (by simp) _).setCell (by simp) _⟩
    · have Ho := hid ho; clear ho
      go_wp2_with fail
      refine bodyPost_ret (v := .tuple #[.agg #[.int .i64 0, .slice (some ⟨g, 0, none⟩) W.jobs.length cap], .int .i64 0]) ?_ rfl ?_
      · simp only [results, Try.results19]; go_simp
      · rw [He.out, Hfin.out]
        exact ⟨_, rfl, ((Ho.out.setCell (by simp <;> omega) _).setCell (by simp <;> omega) _).base (by omega), (HB3.out.setCell (by simp) _).setCell (by simp) _⟩
  · have he' : ((check W).2.2 == 0) = false := by unfold Work.err at he; simp [he]
    have he2 : ((check W).2.2 != 0) = true := by unfold Work.err at he; simp [he]
    have Hfin : Hid (begJobs W = []) := by show begJobs W = _; simp [begJobs, he]
    clear he
    go_wp2_with fail
    refine bodyPost_ret (v := .tuple #[.agg #[.int .i64 0, .slice none 0 0], .int .i64 (check W).2.2]) ?_ rfl ?_
    · simp only [results, Try.results19]; go_simp
    · rw [Hfin.out]
      exact ⟨_, rfl, Own.nil _ _ _ _ _, (HB2.out.setCell (by simp) _).setCell (by simp) _⟩

set_option maxRecDepth 100000 in
set_option maxHeartbeats 3200000 in
theorem qBegin_any (W : Work) (aj af : Option Addr) (cj cf : Nat) (w : World) (hW : WorkIn w W aj af) :
    Calls Try.prog 18 #[.agg #[.int .i64 W.rules.slice, .int .i64 W.rules.load, .int .i64 W.rules.dump, .int .i64 W.rules.patience, .int .i64 W.rules.rate, .slice aj W.jobs.length cj, .slice af W.faults.length cf]] w fun e w' => ∃ v, e = .returned (.tuple #[.agg #[.int .i64 0, v], .int .i64 W.err]) ∧ OwnSts w.heap.size w' v (begJobs W) ∧ Below w.heap.size w w' := by
  obtain ⟨i0, hi0, hz0, hz1, hz2⟩ := info_parts info_st
  have HB1 := hid (((Below.refl _ w).alloc (Nat.le_refl _) (.cells #[.int .i64 W.rules.slice, .int .i64 W.rules.load, .int .i64 W.rules.dump, .int .i64 W.rules.patience, .int .i64 W.rules.rate, .slice aj W.jobs.length cj, .slice af W.faults.length cf] 27)).alloc (by simp) (.cells #[.int .i64 0, .slice none 0 0] 33))
  go_enter Try.func18, Try.ntmps18
  go_wp2_with fail
  refine (qcheck_any W aj af cj cf _ (hW.at HB1.out)).mono ?_
  rintro e w2 ⟨rfl, hb2⟩
  have HB2 := hid (HB1.out.trans (hb2.mono HB1.out.size))
  have hs2 : w.heap.size + 1 < w2.heap.size := by have := hb2.size; simp at this; omega
  have hs1 : w.heap.size < w2.heap.size := by omega
  have HW := hid hW; clear hW
  by_cases he : W.err = 0
  · have he' : ((check W).2.2 == 0) = true := by unfold Work.err at he; simp [he]
    have he2 : ((check W).2.2 != 0) = false := by unfold Work.err at he; simp [he]
    have Hfin : Hid (begJobs W = W.jobs.map begSt) := by show begJobs W = _; simp [begJobs, he]
    have Hk := hid (wok_of_err he)
    have He := hid he
    clear he
    have c0 : w2.cell? ⟨w.heap.size + 1, 0, none⟩ = some (.int .i64 0) := by rw [hb2.cell (p := ⟨w.heap.size + 1, 0, none⟩) (by simp)]; go_simp
    have c1 : w2.cell? ⟨w.heap.size + 1, 1, none⟩ = some (.slice none 0 0) := by rw [hb2.cell (p := ⟨w.heap.size + 1, 1, none⟩) (by simp)]; go_simp
    have c2 : w2.frozen? ⟨w.heap.size + 1, 0, none⟩ = false := by rw [hb2.frozen (p := ⟨w.heap.size + 1, 0, none⟩) (by simp)]; go_simp
    have c3 : w2.frozen? ⟨w.heap.size + 1, 1, none⟩ = false := by rw [hb2.frozen (p := ⟨w.heap.size + 1, 1, none⟩) (by simp)]; go_simp
    have c4 : w2.cell? ⟨w.heap.size, 5, none⟩ = some (.slice aj W.jobs.length cj) := by rw [hb2.cell (p := ⟨w.heap.size, 5, none⟩) (by simp <;> omega)]; go_simp
    go_wp2_with fail
    clear c1
    go_loopw [19] (fun i wr => ∃ k : Nat, ∃ v : Value, k ≤ W.jobs.length ∧ i = .int .i64 k ∧ wr.cell? ⟨w.heap.size + 1, 0, none⟩ = some (.int .i64 0) ∧ wr.cell? ⟨w.heap.size + 1, 1, none⟩ = some v ∧ wr.frozen? ⟨w.heap.size + 1, 0, none⟩ = false ∧ wr.frozen? ⟨w.heap.size + 1, 1, none⟩ = false ∧
      Hid (OwnSts (w.heap.size + 2) wr v ((W.jobs.take k).map begSt)) ∧ w.heap.size + 2 ≤ wr.heap.size ∧ Below (w.heap.size + 1) w2 wr) (fun i _ => W.jobs.length - (intOf i).toNat)
    case atStart =>
      refine ⟨0, .slice none 0 0, Nat.zero_le _, rfl, c0, ?_, c2, c3, hid (Own.nil _ _ _ _ _), by omega, Below.refl _ _⟩
      rw [hb2.cell (p := ⟨w.heap.size + 1, 1, none⟩) (by simp <;> omega)]; go_simp
    case round =>
      clear c0 c2 c3
      obtain ⟨k, v, hk, rfl, q0, q1, q2, q3, hO, hsz, hB⟩ := hrel
      have HB := hid (HB2.out.trans (hB.mono (by omega)))
      have hs0 : w.heap.size < wr.heap.size := by omega
      have hs3 : w.heap.size + 1 < wr.heap.size := by omega
      have c5 : wr.cell? ⟨w.heap.size, 5, none⟩ = some (.slice aj W.jobs.length cj) := by rw [hB.cell (p := ⟨w.heap.size, 5, none⟩) (by simp <;> omega)]; exact c4
      by_cases hlt : k < W.jobs.length
      · obtain ⟨b, off, rfl, hb, d1, d2, d3, d4⟩ := RdJobs.ne (HW.out.jobs.at HB.out) hlt
        have ho : wr.ownsRow (w.heap.size + 2) 70 5 v k (((W.jobs.take k).map begSt).flatMap St.cs) := by have := hO.out; unfold OwnSts Own at this; rw [show ((W.jobs.take k).map begSt).length = k by simp; omega] at this; exact this
        have hbl : ∀ c : Nat, c < w.heap.size + 2 → some c ≠ v.ownBlock := fun c hc e => by have := (World.ownsRow.lt ho _ e.symm).1; omega
        have hk1 : ∀ (O1 O2 : Obj) (w3 : World), ((wr.alloc O1).alloc O2).grownBy w3 v.ownBlock → w3.cell? ⟨w.heap.size + 1, 0, none⟩ = some (.int .i64 0) ∧ w3.cell? ⟨w.heap.size + 1, 1, none⟩ = some v ∧ w3.frozen? ⟨w.heap.size + 1, 0, none⟩ = false ∧ w3.frozen? ⟨w.heap.size + 1, 1, none⟩ = false := by
          intro O1 O2 w3 hg
          refine ⟨?_, ?_, ?_, ?_⟩
          · rw [hg.cell_far _ (by simp <;> omega) (hbl _ (by simp <;> omega))]; go_simp
          · rw [hg.cell_far _ (by simp <;> omega) (hbl _ (by simp <;> omega))]; go_simp
          · rw [hg.frozen_far _ (by simp <;> omega) (hbl _ (by simp <;> omega))]; go_simp
          · rw [hg.frozen_far _ (by simp <;> omega) (hbl _ (by simp <;> omega))]; go_simp
        have Hk1 := hid hk1; clear hk1
        clear hbl
        have hk12 : k + 1 ≤ 12 := by have := Hk.out.jl; omega
        have hm1 : k + 1 ≤ maxLen := by unfold maxLen; omega
        have hm2 : (k + 1) * 40 ≤ 140737488355328 := by omega
        have hm3 : w.heap.size + 2 ≤ wr.heap.size + 1 + 1 := by omega
        have hn0 : (W.jobs.take k).length = k := by simp; omega
        have Hn0 := hid hn0; clear hn0
        go_wp2_with (at_builtin; refine append1 (wr.heap.size + 1) (by simp) rfl _ _ 31 rfl (w.heap.size + 2) 70 i0 _ 5 40 Try.underlying31 hi0 hz0 hz1 hz2 rfl (by decide) v k _ rfl (ho.alloc _) 1 rfl rfl (by simp [Value.oneCell']) hm1 hm2 hm3 ?_; intro g cap w3 ho3 hg3 hb3 hs4; obtain ⟨f1, f2, f3, f4⟩ := Hk1.out _ _ _ hg3)
        go_roundw
        case rel =>
          refine ⟨k + 1, .slice (some ⟨g, 0, none⟩) (k + 1) cap, by omega, by go_num, ?_, ?_, ?_, ?_, hid (Own.setCell (Own.of (n := k + 1) (by simp; omega) ?_ ho3) (by simp <;> omega) _), by simp <;> omega, (((hB.alloc (by omega) _).alloc (by simp <;> omega) _).grown hg3 (by simp <;> omega) (fun j hj => by have := (World.ownsRow.lt ho _ hj).1; omega)).setCell (by simp) _⟩
          · go_simp
          · go_simp
          · go_simp
          · go_simp
          · rw [List.take_succ_eq_append_getElem hlt, List.map_append, List.flatMap_append]; rfl
        case measure => simp [intOf]; omega
      · have hkl : k = W.jobs.length := by omega
        have hOf := hO.out
        rw [hkl, List.take_length] at hOf
        have HOf := hid hOf; clear hOf hkl
        rcases Own.formN HOf.out (n := W.jobs.length) (by simp) with ⟨rfl, hl0, hk0⟩ | ⟨g, cap, rfl, hg1, hg2, _⟩
        · go_wp2_with fail
          refine bodyPost_ret (v := .tuple #[.agg #[.int .i64 0, .slice none 0 0], .int .i64 0]) ?_ rfl ?_
          · simp only [results, Try.results18]; go_simp
          · rw [He.out, Hfin.out]
            exact ⟨_, rfl, ((HOf.out.setCell (by simp) _).setCell (by simp) _).base (by omega), (HB.out.setCell (by simp) _).setCell (by simp) _⟩
        · go_wp2_with fail
          refine bodyPost_ret (v := .tuple #[.agg #[.int .i64 0, .slice (some ⟨g, 0, none⟩) W.jobs.length cap], .int .i64 0]) ?_ rfl ?_
          · simp only [results, Try.results18]; go_simp
          · rw [He.out, Hfin.out]
            exact ⟨_, rfl, ((HOf.out.setCell (by simp) _).setCell (by simp) _).base (by omega), (HB.out.setCell (by simp) _).setCell (by simp) _⟩
  · have he' : ((check W).2.2 == 0) = false := by unfold Work.err at he; simp [he]
    have he2 : ((check W).2.2 != 0) = true := by unfold Work.err at he; simp [he]
    have Hfin : Hid (begJobs W = []) := by show begJobs W = _; simp [begJobs, he]
    clear he
    obtain ⟨hc2, hf2⟩ := bcell hb2
    go_wp2_with fail
    refine bodyPost_ret (v := .tuple #[.agg #[.int .i64 0, .slice none 0 0], .int .i64 (check W).2.2]) ?_ rfl ?_
    · simp only [results, Try.results18]; go_simp
    · rw [Hfin.out]
      exact ⟨_, rfl, Own.nil _ _ _ _ _, (HB2.out.setCell (by simp) _).setCell (by simp) _⟩

end Go.Proofs.Ytbjgebbfachgfaa
