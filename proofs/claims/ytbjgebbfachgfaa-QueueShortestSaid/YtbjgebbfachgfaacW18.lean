/- Totals: the reference's. -/
import Derived.Test.YtbjgebbfachgfaacW17
set_option linter.unusedVariables false
set_option linter.unusedSimpArgs false
set_option linter.unusedSectionVars false
set_option linter.all false
namespace Go.Proofs.Ytbjgebbfachgfaa
open Go.RowKit

theorem load_tot {w : World} {b o : Nat} {x0 x1 x2 x3 : Value} (h0 : w.cell? ⟨b, o, none⟩ = some x0) (h1 : w.cell? ⟨b, o + 1, none⟩ = some x1) (h2 : w.cell? ⟨b, o + 2, none⟩ = some x2) (h3 : w.cell? ⟨b, o + 3, none⟩ = some x3) :
    (loadVar 50 ⟨b, o, none⟩).run Try.prog w = .ok (.agg #[x0, x1, x2, x3]) w := by
  simp [go_sem, h0, h1, h2, h3]

theorem totals_snoc {l : List Spell} {k : Nat} (hk : k < l.length) : totals (l.take (k + 1)) = totAdd (totals (l.take k)) l[k] := by
  unfold totals; rw [List.take_succ_eq_append_getElem hk, List.foldl_append]; rfl

set_option maxRecDepth 100000 in
set_option maxHeartbeats 4000000 in
theorem rtotals_any (a : Option Addr) (c : Nat) (l : List Spell) (w : World) (ha : RdSpells w a l) (hl : l.length ≤ 1000000) (hb : ∀ i (h : i < l.length), (-10000000 ≤ l[i].from0 ∧ l[i].from0 ≤ 10000000) ∧ (0 ≤ l[i].until0 - l[i].from0 ∧ l[i].until0 - l[i].from0 ≤ 20000)) :
    Calls Try.prog 40 #[.slice a l.length c] w fun e w' => e = .returned (.agg #[.int .i64 (totals l).run, .int .i64 (totals l).lost, .int .i64 (totals l).repair, .int .i64 (totals l).idle]) ∧ Below w.heap.size w w' := by
  have Hb := hid hb; clear hb
  go_enter Try.func40, Try.ntmps40
  go_wp2_with fail
  go_loopw [4] (fun i wr => ∃ k : Nat, ∃ t : Tot, k ≤ l.length ∧ i = .int .i64 k ∧ Hid (t = totals (l.take k)) ∧ (0 ≤ t.run ∧ t.run ≤ 20000 * k) ∧ (0 ≤ t.lost ∧ t.lost ≤ 20000 * k) ∧ (0 ≤ t.repair ∧ t.repair ≤ 20000 * k) ∧ (0 ≤ t.idle ∧ t.idle ≤ 20000 * k) ∧
    wr.cell? ⟨w.heap.size + 1, 0, none⟩ = some (.int .i64 t.run) ∧ wr.cell? ⟨w.heap.size + 1, 1, none⟩ = some (.int .i64 t.lost) ∧ wr.cell? ⟨w.heap.size + 1, 2, none⟩ = some (.int .i64 t.repair) ∧ wr.cell? ⟨w.heap.size + 1, 3, none⟩ = some (.int .i64 t.idle) ∧
    (∀ o, wr.frozen? ⟨w.heap.size + 1, o, none⟩ = false) ∧ w.heap.size + 1 < wr.heap.size ∧ Below (w.heap.size + 1) (w.alloc (.cells #[.int .i64 0, .int .i64 0, .int .i64 0, .int .i64 0] 50)) wr) (fun i _ => l.length - (intOf i).toNat)
  case atStart => exact ⟨0, Tot.zero, Nat.zero_le _, rfl, hid rfl, ⟨by decide, by decide⟩, ⟨by decide, by decide⟩, ⟨by decide, by decide⟩, ⟨by decide, by decide⟩, by go_simp; rfl, by go_simp; rfl, by go_simp; rfl, by go_simp; rfl, by intro o; go_simp, by simp, (by repeat (first | (with_reducible exact Below.refl _ _) | (with_reducible refine bdrewN ?_ _) | (with_reducible refine Below.drew ?_) | (with_reducible refine Below.setCell ?_ (by first | omega | (simp; done) | (simp; omega)) _) | (with_reducible refine Below.alloc ?_ (by first | omega | (simp; done) | (simp; omega)) _)))⟩
  case round =>
    obtain ⟨k, t, hk, rfl, ht, ⟨r1, r2⟩, ⟨l1, l2⟩, ⟨p1, p2⟩, ⟨i1, i2⟩, c0, c1, c2, c3, hfz, hsz, hB⟩ := hrel
    obtain ⟨hc, hf⟩ := bcell hB
    have hB0 : Below w.heap.size w wr := (below_alloc1 _ _).trans (hB.mono (by omega))
    by_cases hlt : k < l.length
    · obtain ⟨b, off, rfl, hb, d1, d2, d3, d4⟩ := RdSpells.ne ha hlt
      obtain ⟨⟨u1, u2⟩, u3, u4⟩ := Hb.out k hlt
      have s1 : IntKind.i64.wrap (l[k].until0 - l[k].from0) = l[k].until0 - l[k].from0 := IntWalk.i64_in _ (by omega)
      have x1 : (k : Int) < (l.length : Int) := by omega
      have x2 : b < w.heap.size + 1 := by omega
      have Hsn := hid (totals_snoc hlt)
      rw [← ht.out] at Hsn
      rcases Bool.eq_false_or_eq_true (inb l[k].kind 1 3) with t1 | t1 <;> rcases beq_or l[k].kind 4 with t2 | t2 <;> rcases beq_or l[k].kind 5 with t3 | t3 <;> rcases beq_or l[k].kind 6 with t4 | t4 <;>
        first
        | (exfalso; simp [inb] at t1 t2 t3 t4; omega)
        | (have Ht := hid (show totAdd t l[k] = ⟨if inb l[k].kind 1 3 then t.run + (l[k].until0 - l[k].from0) else t.run, if l[k].kind == 4 then t.lost + (l[k].until0 - l[k].from0) else t.lost, if l[k].kind == 5 then t.repair + (l[k].until0 - l[k].from0) else t.repair, if l[k].kind == 6 then t.idle + (l[k].until0 - l[k].from0) else t.idle⟩ from rfl)
           rw [t1, t2, t3, t4] at Ht
           go_wp2_with fail
           go_quiet (fail)
           clear s1
           go_wp2_with (go_at_call 49; refine (refin_any _ _ _ _).mono ?_; rintro e w' ⟨rfl, rfl⟩)
           go_roundw
           case rel => exact ⟨k + 1, totAdd t l[k], by omega, by go_num, hid Hsn.out.symm, by rw [Ht.out]; simp; omega, by rw [Ht.out]; simp; omega, by rw [Ht.out]; simp; omega, by rw [Ht.out]; simp; omega, by rw [Ht.out]; go_simp, by rw [Ht.out]; go_simp, by rw [Ht.out]; go_simp, by rw [Ht.out]; go_simp, by intro o; go_simp, (by first | omega | (simp; done) | (simp; omega)), (by repeat (first | (with_reducible exact hB) | (with_reducible refine bdrewN ?_ _) | (with_reducible refine Below.drew ?_) | (with_reducible refine Below.setCell ?_ (by first | omega | (simp; done) | (simp; omega)) _) | (with_reducible refine Below.alloc ?_ (by first | omega | (simp; done) | (simp; omega)) _)))⟩
           case measure => simp [intOf]; omega)
    · have htl : t = totals l := by have := ht.out; rw [List.take_of_length_le (by omega)] at this; exact this
      have Htl := hid htl; clear htl
      go_wp2_with fail
      refine bodyPost_ret (v := .agg #[.int .i64 t.run, .int .i64 t.lost, .int .i64 t.repair, .int .i64 t.idle]) (res_c Try.results40 rfl (load_tot ?_ ?_ ?_ ?_)) rfl ⟨by rw [Htl.out], (by repeat (first | (with_reducible exact hB0) | (with_reducible refine bdrewN ?_ _) | (with_reducible refine Below.drew ?_) | (with_reducible refine Below.setCell ?_ (by first | omega | (simp; done) | (simp; omega)) _) | (with_reducible refine Below.alloc ?_ (by first | omega | (simp; done) | (simp; omega)) _)))⟩
      all_goals go_simp

end Go.Proofs.Ytbjgebbfachgfaa
