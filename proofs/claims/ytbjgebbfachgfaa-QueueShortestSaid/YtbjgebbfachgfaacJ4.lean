/- Texts of this proof, joined: W11 W23 W24 W25 W26 W27 RInv W28. -/
import Derived.Deep.AppendLies
import Derived.Deep.DeepCutAuto
import Derived.Deep.RegionHeld3
import Derived.Test.YtbjgebbfachgfaacW10
import Derived.Test.YtbjgebbfachgfaacJ3
import Derived.Test.YtbjgebbfachgfaacJ1
set_option linter.unusedVariables false
set_option linter.unusedSimpArgs false
set_option linter.unusedSectionVars false
set_option linter.all false
/- Overdue, before, taken: the reference's. -/
namespace Go.Proofs.Ytbjgebbfachgfaa
open Go.RowKit

structure QOk (W : Work) (q : Qu) : Prop where
  len : q.jobs.length = W.jobs.length
  now0 : 0 ≤ q.now
  now1 : q.now ≤ 1000000
  st : ∀ i (h : i < q.jobs.length) (h' : i < W.jobs.length), stOk W.jobs[i] q.jobs[i] = true
theorem QOk.b {W : Work} {q : Qu} (h : QOk W q) {i : Nat} (hi : i < q.jobs.length) (hi' : i < W.jobs.length) :
    (0 ≤ q.jobs[i].progress ∧ q.jobs[i].progress ≤ W.jobs[i].fin) ∧ (0 ≤ q.jobs[i].since ∧ q.jobs[i].since ≤ 1000000) ∧ (0 ≤ q.jobs[i].charge ∧ q.jobs[i].charge ≤ 1000000000) ∧ (0 ≤ q.jobs[i].why ∧ q.jobs[i].why ≤ 2) ∧ (-1 ≤ q.jobs[i].ended ∧ q.jobs[i].ended ≤ 1000000) ∧ (q.jobs[i].why = 0 → q.jobs[i].progress ≠ W.jobs[i].fin) := by
  have := h.st i hi hi'
  simp [stOk, inb_iff, and_assoc] at this
  obtain ⟨a, b, c, d, e, f, g, h, i, j, k⟩ := this
  exact ⟨⟨a, b⟩, ⟨c, d⟩, ⟨e, f⟩, ⟨g, h⟩, ⟨i, j⟩, fun x y => by rcases k with k | k; exact k x; exact k y⟩

theorem overdue_eq {W : Work} {q : Qu} {k : Nat} (hk : k < q.jobs.length) (hk' : k < W.jobs.length) : overdue W q k = (q.jobs[k].why == 0 && decide (W.jobs[k].arrive ≤ q.now) && decide (W.rules.patience ≤ q.now - q.jobs[k].since)) := by
  unfold overdue; rw [Qu.st_eq hk, Work.job_eq hk']

set_option maxRecDepth 100000 in
set_option maxHeartbeats 2000000 in
theorem roverdue_any (W : Work) (q : Qu) (aj af aq : Option Addr) (cj cf cq : Nat) (k : Nat) (w : World) (hW : WorkIn w W aj af) (hq : RdSts w aq q.jobs) (hQ : QOk W q) (hk : k < q.jobs.length) :
    Calls Try.prog 41 #[.agg #[.int .i64 W.rules.slice, .int .i64 W.rules.load, .int .i64 W.rules.dump, .int .i64 W.rules.patience, .int .i64 W.rules.rate, .slice aj W.jobs.length cj, .slice af W.faults.length cf], .agg #[.int .i64 q.now, .slice aq q.jobs.length cq], .int .i64 (k : Int)] w fun e w' => e = .returned (.bool (overdue W q k)) ∧ Below w.heap.size w w' := by
  have hk' : k < W.jobs.length := by have := hQ.len; omega
  have hlj := hW.jl
  have hlen := hQ.len
  have hle : q.jobs.length ≤ W.jobs.length := by omega
  clear hlen
  have Hfin := hid (overdue_eq (W := W) (q := q) hk hk')
  obtain ⟨b, off, rfl, hb, d1, d2, d3, d4⟩ := RdJobs.ne hW.jobs hk'
  obtain ⟨b2, off2, rfl, hb2, e1, e2, e3, e4, e5⟩ := RdSts.ne hq hk
  obtain ⟨_, ⟨s1, s2⟩, _⟩ := hQ.b hk hk'
  have n1 := hQ.now0
  have n2 := hQ.now1
  have w1 : IntKind.i64.wrap (q.now - q.jobs[k].since) = q.now - q.jobs[k].since := IntWalk.i64_in _ (by omega)
  have x1 : (k : Int) < (q.jobs.length : Int) := by omega
  have x2 : (k : Int) < (W.jobs.length : Int) := by omega
  have hw0 : b < w.heap.size + 1 := by omega
  have hw2 : b2 < w.heap.size + 1 := by omega
  clear hW hq hQ
  rcases beq_or q.jobs[k].why 0 with t1 | t1 <;> rcases dec_or (W.jobs[k].arrive ≤ q.now) with t2 | t2 <;> rcases dec_or (W.rules.patience ≤ q.now - q.jobs[k].since) with t3 | t3
  all_goals
    go_enter Try.func41, Try.ntmps41
    go_wp2_with fail
    go_quiet (fail)
    go_wp2_with fail
    go_ret
    exact ⟨by rw [Hfin.out, t1, t2, t3]; rfl, bdrewN (((Below.refl _ w).alloc (Nat.le_refl _) _).alloc (by simp) _) _⟩

end Go.Proofs.Ytbjgebbfachgfaa
/- the room's ready. -/
namespace Go.Proofs.Ytbjgebbfachgfaa
open Go.RowKit

/-- the jobs below k that wait and have arrived -/
def readyUpto (W : Work) (q : Qu) (k : Nat) : List Int := ((List.range k).filter (cand W q)).map fun (i : Nat) => (i : Int)
theorem ready_yes {W : Work} {q : Qu} {k : Nat} (h : cand W q k = true) : readyUpto W q (k + 1) = readyUpto W q k ++ [(k : Int)] := by
  unfold readyUpto; rw [List.range_succ, List.filter_append, List.map_append]; simp [h]
theorem ready_no {W : Work} {q : Qu} {k : Nat} (h : cand W q k = false) : readyUpto W q (k + 1) = readyUpto W q k := by
  unfold readyUpto; rw [List.range_succ, List.filter_append, List.map_append]; simp [h]
theorem ready_len (W : Work) (q : Qu) (k : Nat) : (readyUpto W q k).length ≤ k := by
  unfold readyUpto; rw [List.length_map]; exact Nat.le_trans (List.length_filter_le _ _) (by simp)

theorem cand_eq' {W : Work} {q : Qu} {k : Nat} (hk : k < q.jobs.length) (hk' : k < W.jobs.length) : cand W q k = (q.jobs[k].why == 0 && decide (W.jobs[k].arrive ≤ q.now)) := by
  unfold cand; rw [Qu.st_eq hk, Work.job_eq hk']

set_option maxRecDepth 100000 in
set_option maxHeartbeats 4000000 in
theorem ready_any (R : Nat) (W : Work) (q : Qu) (aj af aq : Option Addr) (cj cf cq : Nat) (w : World) (hR : RoomIn w R W q aj af aq cj cf cq) (hK : WOk W) (hQ : QOk W q) :
    Calls Try.prog 72 #[.pointer (some ⟨R, 0, none⟩)] w fun e w' => ∃ v, e = .returned v ∧ OwnInts w.heap.size w' v (readyUpto W q q.jobs.length) ∧ Below w.heap.size w w' := by
  obtain ⟨i0, hi0, hz0, hz1, hz2⟩ := info_parts info_int
  have r5 := hR.c5
  have r7 := hR.c7
  have r8 := hR.c8
  have hRl := hR.lt
  have hlen := hQ.len
  have hle : q.jobs.length ≤ 12 := by have := hK.jl; omega
  have hle2 : q.jobs.length ≤ W.jobs.length := by omega
  clear hlen
  have HR := hid hR; clear hR
  go_enter Try.func72, Try.ntmps72
  go_wp2_with fail
  go_loopw [2, 12] (fun s i wr => ∃ k : Nat, ∃ v : Value, k ≤ q.jobs.length ∧ i = .int .i64 k ∧ v = s ∧ Hid (OwnInts w.heap.size wr v (readyUpto W q k)) ∧ Below w.heap.size w wr) (fun _ i _ => q.jobs.length - (intOf i).toNat)
  case atStart => exact ⟨0, _, Nat.zero_le _, rfl, rfl, hid (Own.nil _ _ _ _ _), Below.refl _ _⟩
  case round =>
    obtain ⟨k, v, hk, rfl, rfl, hO, hB⟩ := hrel
    obtain ⟨hc, hf⟩ := bcell hB
    have hsz := hB.size
    have hRr : R < wr.heap.size := by omega
    by_cases hlt : k < q.jobs.length
    · have hlt' : k < W.jobs.length := by omega
      obtain ⟨b1, off, rfl, hb1, d1, d2, d3, d4⟩ := RdJobs.ne HR.out.wk.jobs hlt'
      obtain ⟨b2, off2, rfl, hb2, e1, e2, e3, e4, e5⟩ := RdSts.ne HR.out.sts hlt
      have k1 : b1 < wr.heap.size := by omega
      have k2 : b2 < wr.heap.size := by omega
      have x1 : (k : Int) < (q.jobs.length : Int) := by omega
      have x2 : (k : Int) < (W.jobs.length : Int) := by omega
      have Hce := hid (cand_eq' (W := W) (q := q) hlt hlt')
      rcases beq_or q.jobs[k].why 0 with t1 | t1
      · rcases dec_or (W.jobs[k].arrive ≤ q.now) with t2 | t2
        · have Hy := hid (ready_yes (W := W) (q := q) (k := k) (by rw [Hce.out, t1, t2]; rfl))
          have hnl := ready_len W q k
          obtain ⟨n, hn⟩ : ∃ n, (readyUpto W q k).length = n := ⟨_, rfl⟩
          have ho : wr.ownsRow w.heap.size 3 1 v n ((readyUpto W q k).flatMap fun n : Int => [Value.int .i64 n]) := by have := hO.out; unfold OwnInts Own at this; rw [hn] at this; exact this
          rw [hn] at hnl
          have Hn := hid hn; clear hn
          have hm1 : n + 1 ≤ maxLen := by unfold maxLen; omega
          have hm2 : (n + 1) * 8 ≤ 140737488355328 := by omega
          have hm3 : w.heap.size ≤ wr.heap.size + 1 + 1 := by omega
          go_wp2_with fail
          go_quiet (fail)
          go_wp2_with (at_builtin; refine append1 (wr.heap.size + 1) (by simp) rfl _ _ 48 rfl w.heap.size 3 i0 _ 1 8 Try.underlying48 hi0 hz0 hz1 hz2 rfl (by decide) v n _ rfl (by exact ho.alloc _) 1 rfl rfl (by simp [Value.oneCell']) hm1 hm2 hm3 ?_; intro g cap w3 ho3 hg3 hb3 hs4)
          go_roundw
          case rel =>
            refine ⟨k + 1, _, by omega, by go_num, rfl, hid (Own.of (n := n + 1) (by rw [Hy.out, List.length_append, Hn.out]; rfl) (by rw [Hy.out, List.flatMap_append]; rfl) ho3), ((show Below w.heap.size w _ from (by repeat (first | (with_reducible exact hB) | (with_reducible refine bdrewN ?_ _) | (with_reducible refine Below.drew ?_) | (with_reducible refine Below.setCell ?_ (by first | omega | (simp; done) | (simp; omega)) _) | (with_reducible refine Below.alloc ?_ (by first | omega | (simp; done) | (simp; omega)) _)))).grown hg3 (by simp <;> omega) (fun j hj => (World.ownsRow.lt ho _ hj).1))⟩
          case measure => simp [intOf]; omega
        · have Hy := hid (ready_no (W := W) (q := q) (k := k) (by rw [Hce.out, t1, t2]; rfl))
          go_wp2_with fail
          go_quiet (fail)
          go_wp2_with fail
          go_roundw
          case rel => exact ⟨k + 1, v, by omega, by go_num, rfl, hid (by rw [Hy.out]; exact (by repeat (first | (with_reducible exact hO.out) | (with_reducible refine Own.drewN ?_ _) | (with_reducible refine Own.drew ?_) | (with_reducible refine Own.setNe ?_ (by first | omega | (simp; done) | (simp; omega)) _) | (with_reducible refine Own.alloc ?_ _)))), (by repeat (first | (with_reducible exact hB) | (with_reducible refine bdrewN ?_ _) | (with_reducible refine Below.drew ?_) | (with_reducible refine Below.setCell ?_ (by first | omega | (simp; done) | (simp; omega)) _) | (with_reducible refine Below.alloc ?_ (by first | omega | (simp; done) | (simp; omega)) _)))⟩
          case measure => simp [intOf]; omega
      · have Hy := hid (ready_no (W := W) (q := q) (k := k) (by rw [Hce.out, t1]; rfl))
        go_wp2_with fail
        go_quiet (fail)
        go_wp2_with fail
        go_roundw
        case rel => exact ⟨k + 1, v, by omega, by go_num, rfl, hid (by rw [Hy.out]; exact (by repeat (first | (with_reducible exact hO.out) | (with_reducible refine Own.drewN ?_ _) | (with_reducible refine Own.drew ?_) | (with_reducible refine Own.setNe ?_ (by first | omega | (simp; done) | (simp; omega)) _) | (with_reducible refine Own.alloc ?_ _)))), (by repeat (first | (with_reducible exact hB) | (with_reducible refine bdrewN ?_ _) | (with_reducible refine Below.drew ?_) | (with_reducible refine Below.setCell ?_ (by first | omega | (simp; done) | (simp; omega)) _) | (with_reducible refine Below.alloc ?_ (by first | omega | (simp; done) | (simp; omega)) _)))⟩
        case measure => simp [intOf]; omega
    · have hkl : k = q.jobs.length := by omega
      have hOf := hO.out
      rw [hkl] at hOf
      have HOf := hid hOf; clear hOf hkl
      go_wp2_with fail
      go_ret
      exact ⟨v, rfl, HOf.out, hB⟩

end Go.Proofs.Ytbjgebbfachgfaa
/- the room's repair. -/
namespace Go.Proofs.Ytbjgebbfachgfaa
open Go.RowKit

def repUpto (W : Work) (now : Int) : Nat → Spell
  | 0 => Spell.zero
  | k + 1 => if inb now (W.flt k).at0 ((W.flt k).at0 + (W.flt k).rep - 1) then ⟨5, -1, now, (W.flt k).at0 + (W.flt k).rep⟩ else repUpto W now k
theorem rep_succ {W : Work} {now : Int} {k : Nat} (hk : k < W.faults.length) : repUpto W now (k + 1) = if inb now W.faults[k].at0 (W.faults[k].at0 + W.faults[k].rep - 1) then ⟨5, -1, now, W.faults[k].at0 + W.faults[k].rep⟩ else repUpto W now k := by
  show (if inb now (W.flt k).at0 _ then _ else _) = _
  rw [Work.flt_eq hk]

theorem qout_quiet (a b c : Int) (w : World) (n : Nat) : Calls Try.prog 46 #[.int .i64 a, .int .i64 b, .int .i64 c] (w.drewN n) fun e w' => e = .returned (.bool (!inb a b c)) ∧ w' = w.drewN n :=
  (qout_any a b c _).mono fun _ _ ⟨h1, h2⟩ => ⟨h1, h2.symm⟩

set_option maxRecDepth 100000 in
set_option maxHeartbeats 4000000 in
theorem repair_any (R : Nat) (W : Work) (q : Qu) (aj af aq : Option Addr) (cj cf cq : Nat) (w : World) (hR : RoomIn w R W q aj af aq cj cf cq) (hK : WOk W) :
    Calls Try.prog 65 #[.pointer (some ⟨R, 0, none⟩)] w fun e w' => e = .returned (.agg #[.int .i64 (repUpto W q.now W.faults.length).kind, .int .i64 (repUpto W q.now W.faults.length).job, .int .i64 (repUpto W q.now W.faults.length).from0, .int .i64 (repUpto W q.now W.faults.length).until0]) ∧ Below w.heap.size w w' := by
  have r6 := hR.c6
  have r7 := hR.c7
  have hRl := hR.lt
  have hlf := hK.fl
  have HR := hid hR; clear hR
  go_enter Try.func65, Try.ntmps65
  go_wp2_with fail
  go_loopw [11] (fun i wr => ∃ k : Nat, ∃ s : Spell, k ≤ W.faults.length ∧ i = .int .i64 k ∧ Hid (s = repUpto W q.now k) ∧ wr.cell? ⟨w.heap.size, 0, none⟩ = some (.int .i64 s.kind) ∧ wr.cell? ⟨w.heap.size, 1, none⟩ = some (.int .i64 s.job) ∧ wr.cell? ⟨w.heap.size, 2, none⟩ = some (.int .i64 s.from0) ∧ wr.cell? ⟨w.heap.size, 3, none⟩ = some (.int .i64 s.until0) ∧
    (∀ o, wr.frozen? ⟨w.heap.size, o, none⟩ = false) ∧ w.heap.size < wr.heap.size ∧ Below w.heap.size w wr) (fun i _ => W.faults.length - (intOf i).toNat)
  case atStart => exact ⟨0, Spell.zero, Nat.zero_le _, rfl, hid rfl, by go_simp; rfl, by go_simp; rfl, by go_simp; rfl, by go_simp; rfl, by intro o; go_simp, by simp, (by repeat (first | (with_reducible exact Below.refl _ _) | (with_reducible refine bdrewN ?_ _) | (with_reducible refine Below.drew ?_) | (with_reducible refine Below.setCell ?_ (by first | omega | (simp; done) | (simp; omega)) _) | (with_reducible refine Below.alloc ?_ (by first | omega | (simp; done) | (simp; omega)) _)))⟩
  case round =>
    obtain ⟨k, s, hk, rfl, hs, c0, c1, c2, c3, hfz, hsz, hB⟩ := hrel
    obtain ⟨hc, hf⟩ := bcell hB
    have hRr : R < wr.heap.size := by omega
    have hRn : ¬ R = w.heap.size := by omega
    by_cases hlt : k < W.faults.length
    · obtain ⟨b, off, rfl, hb, d1, d2⟩ := RdFaults.ne HR.out.wk.faults hlt
      obtain ⟨⟨z1, z2⟩, ⟨z3, z4⟩, _⟩ := hK.fb hlt
      have hbr : b < wr.heap.size := by omega
      have hbn : ¬ b = w.heap.size := by omega
      have s1 : IntKind.i64.wrap (W.faults[k].at0 + W.faults[k].rep) = W.faults[k].at0 + W.faults[k].rep := IntWalk.i64_in _ (by omega)
      have s2 : IntKind.i64.wrap (W.faults[k].at0 + W.faults[k].rep - 1) = W.faults[k].at0 + W.faults[k].rep - 1 := IntWalk.i64_in _ (by omega)
      have Hs := hid (rep_succ (W := W) (now := q.now) hlt)
      rcases Bool.eq_false_or_eq_true (inb q.now W.faults[k].at0 (W.faults[k].at0 + W.faults[k].rep - 1)) with t1 | t1
      · go_wp2_with fail
        go_quiet ((go_at_call 46; exact Calls.quiet_of_same (qout_quiet _ _ _ _ _)))
        go_wp2_with fail
        go_region
        go_wp2_with fail
        go_roundw
        case rel => exact ⟨k + 1, ⟨5, -1, q.now, W.faults[k].at0 + W.faults[k].rep⟩, by omega, by go_num, hid (by rw [Hs.out, t1]; rfl), by go_simp, by go_simp, by go_simp, by go_simp, by intro o; go_simp, (by first | omega | (simp; done) | (simp; omega)), (by repeat (first | (with_reducible exact hB) | (with_reducible refine bdrewN ?_ _) | (with_reducible refine Below.drew ?_) | (with_reducible refine Below.setCell ?_ (by first | omega | (simp; done) | (simp; omega)) _) | (with_reducible refine Below.alloc ?_ (by first | omega | (simp; done) | (simp; omega)) _)))⟩
        case measure => simp [intOf]; omega
      · go_wp2_with fail
        go_quiet ((go_at_call 46; exact Calls.quiet_of_same (qout_quiet _ _ _ _ _)))
        go_wp2_with fail
        go_roundw
        case rel => exact ⟨k + 1, s, by omega, by go_num, hid (by rw [Hs.out, t1]; exact hs.out), by go_simp, by go_simp, by go_simp, by go_simp, by intro o; go_simp, (by first | omega | (simp; done) | (simp; omega)), (by repeat (first | (with_reducible exact hB) | (with_reducible refine bdrewN ?_ _) | (with_reducible refine Below.drew ?_) | (with_reducible refine Below.setCell ?_ (by first | omega | (simp; done) | (simp; omega)) _) | (with_reducible refine Below.alloc ?_ (by first | omega | (simp; done) | (simp; omega)) _)))⟩
        case measure => simp [intOf]; omega
    · have hkl : k = W.faults.length := by omega
      have hsf : s = repUpto W q.now W.faults.length := by rw [hs.out, hkl]
      have Hsf := hid hsf; clear hsf hkl
      go_wp2_with fail
      refine bodyPost_ret (v := .agg #[.int .i64 s.kind, .int .i64 s.job, .int .i64 s.from0, .int .i64 s.until0]) (res_c Try.results65 rfl (load_spell ?_ ?_ ?_ ?_)) rfl ⟨by rw [Hsf.out], (by repeat (first | (with_reducible exact hB) | (with_reducible refine bdrewN ?_ _) | (with_reducible refine Below.drew ?_) | (with_reducible refine Below.setCell ?_ (by first | omega | (simp; done) | (simp; omega)) _) | (with_reducible refine Below.alloc ?_ (by first | omega | (simp; done) | (simp; omega)) _)))⟩
      all_goals go_simp

end Go.Proofs.Ytbjgebbfachgfaa
/- the room's rank. -/
namespace Go.Proofs.Ytbjgebbfachgfaa
open Go.RowKit

def rankOf (W : Work) (q : Qu) (k : Nat) : List Int := if W.rules.patience ≤ q.now - (q.st k).since then [0, 0, (q.st k).since] else [1, (W.job k).claim - (q.st k).progress, (q.st k).since]
theorem load_arr3 {w : World} {b o : Nat} {x0 x1 x2 : Value} (h0 : w.cell? ⟨b, o, none⟩ = some x0) (h1 : w.cell? ⟨b, o + 1, none⟩ = some x1) (h2 : w.cell? ⟨b, o + 2, none⟩ = some x2) :
    (loadVar 116 ⟨b, o, none⟩).run Try.prog w = .ok (.agg #[x0, x1, x2]) w := by
  simp [go_sem, h0, h1, h2]

def RankRes (W : Work) (q : Qu) (k : Nat) (w : World) (e : Ending) (w' : World) : Prop := ∃ x y z : Int, rankOf W q k = [x, y, z] ∧ e = .returned (.agg #[.int .i64 x, .int .i64 y, .int .i64 z]) ∧ Below w.heap.size w w'

set_option maxRecDepth 100000 in
set_option maxHeartbeats 4000000 in
theorem rank_any (R : Nat) (W : Work) (q : Qu) (aj af aq : Option Addr) (cj cf cq : Nat) (k : Nat) (w : World) (hR : RoomIn w R W q aj af aq cj cf cq) (hK : WOk W) (hQ : QOk W q) (hk : k < q.jobs.length) :
    Calls Try.prog 77 #[.pointer (some ⟨R, 0, none⟩), .int .i64 (k : Int)] w (RankRes W q k w) := by
  have r3 := hR.c3
  have r5 := hR.c5
  have r7 := hR.c7
  have r8 := hR.c8
  have hRl := hR.lt
  have hk' : k < W.jobs.length := by have := hQ.len; omega
  obtain ⟨⟨p1, p2⟩, ⟨p3, p4⟩, _⟩ := hQ.b hk hk'
  have n1 := hQ.now0
  have n2 := hQ.now1
  obtain ⟨_, ⟨j1, j2⟩, _⟩ := hK.jb hk'
  have jf := Job.fin_bd (hK.job k hk')
  have hle : q.jobs.length ≤ 12 := by have := hK.jl; have := hQ.len; omega
  have hle2 : W.jobs.length ≤ 12 := hK.jl
  have s1 : IntKind.i64.wrap (q.now - q.jobs[k].since) = q.now - q.jobs[k].since := IntWalk.i64_in _ (by omega)
  have s2 : IntKind.i64.wrap (W.jobs[k].claim - q.jobs[k].progress) = W.jobs[k].claim - q.jobs[k].progress := IntWalk.i64_in _ (by omega)
  obtain ⟨b1, off, rfl, hb1, d1, d2, d3, d4⟩ := RdJobs.ne hR.wk.jobs hk'
  obtain ⟨b2, off2, rfl, hb2, e1, e2, e3, e4, e5⟩ := RdSts.ne hR.sts hk
  have x1 : (k : Int) < (q.jobs.length : Int) := by omega
  have x2 : (k : Int) < (W.jobs.length : Int) := by omega
  clear hR
  rcases dec_or (W.rules.patience ≤ q.now - q.jobs[k].since) with t1 | t1
  · have Hr := hid (show rankOf W q k = [0, 0, q.jobs[k].since] by unfold rankOf; rw [Qu.st_eq hk, if_pos (by simpa using t1)])
    go_enter Try.func77, Try.ntmps77
    go_wp2_with fail
    go_quiet (fail)
    go_wp2_with fail
    refine bodyPost_ret (v := .agg #[.int .i64 0, .int .i64 0, .int .i64 q.jobs[k].since]) (res_c Try.results77 rfl (load_arr3 ?_ ?_ ?_)) rfl ⟨_, _, _, Hr.out, rfl, (by repeat (first | (with_reducible exact Below.refl _ _) | (with_reducible refine bdrewN ?_ _) | (with_reducible refine Below.drew ?_) | (with_reducible refine Below.setCell ?_ (by first | omega | (simp; done) | (simp; omega)) _) | (with_reducible refine Below.alloc ?_ (by first | omega | (simp; done) | (simp; omega)) _)))⟩
    all_goals go_simp
  · have Hr := hid (show rankOf W q k = [1, W.jobs[k].claim - q.jobs[k].progress, q.jobs[k].since] by unfold rankOf; rw [Qu.st_eq hk, Work.job_eq hk', if_neg (by simpa using t1)])
    go_enter Try.func77, Try.ntmps77
    go_wp2_with fail
    go_quiet (fail)
    go_wp2_with fail
    go_region
    go_wp2_with fail
    refine bodyPost_ret (v := .agg #[.int .i64 1, .int .i64 (W.jobs[k].claim - q.jobs[k].progress), .int .i64 q.jobs[k].since]) (res_c Try.results77 rfl (load_arr3 ?_ ?_ ?_)) rfl ⟨_, _, _, Hr.out, rfl, (by repeat (first | (with_reducible exact Below.refl _ _) | (with_reducible refine bdrewN ?_ _) | (with_reducible refine Below.drew ?_) | (with_reducible refine Below.setCell ?_ (by first | omega | (simp; done) | (simp; omega)) _) | (with_reducible refine Below.alloc ?_ (by first | omega | (simp; done) | (simp; omega)) _)))⟩
    all_goals go_simp

end Go.Proofs.Ytbjgebbfachgfaa
/- slices.MinFunc and least, with the comparison of the room's jobs. -/
namespace Go.Proofs.Ytbjgebbfachgfaa
open Go.RowKit

def minStep (f : Int → Int → Int) (m n : Int) : Int := if f n m < 0 then n else m
def minOf (f : Int → Int → Int) (l : List Int) : Int := (l.drop 1).foldl (minStep f) (l.getD 0 0)
theorem min_snoc {f : Int → Int → Int} {l : List Int} {k : Nat} (h0 : 0 < k) (hk : k < l.length) : minOf f (l.take (k + 1)) = minStep f (minOf f (l.take k)) l[k] := by
  unfold minOf
  rw [List.take_succ_eq_append_getElem hk, List.drop_append_of_le_length (by simp; omega), List.foldl_append]
  have : (l.take k ++ [l[k]]).getD 0 0 = (l.take k).getD 0 0 := by
    simp only [List.getD_eq_getElem?_getD]
    rw [List.getElem?_append_left (by simp; omega)]
  rw [this]; rfl

set_option maxHeartbeats 1000000 in
theorem minFunc_any (f : Int → Int → Int) (S : Int → Prop) (B : Nat) (a : Option Addr) (c : Nat) (l : List Int) (w : World) (hl : l.length ≤ 1000) (h0 : 0 < l.length) (ha : RdInts w a l) (hS : ∀ i (h : i < l.length), S l[i])
    (hf : ∀ x y w', S x → S y → Below w.heap.size w w' → Calls Try.prog 76 #[.int .i64 x, .int .i64 y, .pointer (some ⟨B, 0, none⟩)] w' fun e w'' => e = .returned (.int .i64 (f x y)) ∧ Below w'.heap.size w' w'') :
    Calls Try.prog 81 #[.slice a l.length c, .func (.func 76) #[] #[.pointer (some ⟨B, 0, none⟩)]] w fun e w' => e = .returned (.int .i64 (minOf f l)) ∧ Below w.heap.size w w' := by
  have Hf := hid hf; clear hf
  have HS := hid hS; clear hS
  obtain ⟨b, off, rfl, hb, d0⟩ := RdInts.ne ha h0
  have hh0 := d0
  simp only [Nat.add_zero] at hh0
  go_enter Try.func81, Try.ntmps81
  go_wp2_with fail
  go_loopw [5, 6] (fun x i wr => ∃ k : Nat, ∃ m : Int, 0 < k ∧ k ≤ l.length ∧ i = .int .i64 k ∧ x = .int .i64 m ∧ Hid (m = minOf f (l.take k)) ∧ Hid (S m) ∧ Below w.heap.size w wr) (fun _ i _ => l.length - (intOf i).toNat)
  case atStart => exact ⟨1, l[0], by omega, by omega, rfl, rfl, hid (by unfold minOf; simp [h0]), hid (HS.out 0 h0), Below.refl _ _⟩
  case round =>
    obtain ⟨k, m, hk0, hk, rfl, rfl, hm, hSm, hB⟩ := hrel
    obtain ⟨hc, hff⟩ := bcell hB
    by_cases hlt : k < l.length
    · obtain ⟨_, d1⟩ := RdInts.get ha hlt
      have Hs := hid (min_snoc (f := f) hk0 hlt)
      rw [← hm.out] at Hs
      have hbr : b < wr.heap.size := Nat.lt_of_lt_of_le hb hB.size
      by_cases hn : f l[k] m < 0
      · have Hs2 := hid (show minStep f m l[k] = l[k] by simp [minStep, hn])
        go_wp2_with (go_at_call 76; refine (Hf.out l[k] m _ (HS.out k hlt) hSm.out hB).mono ?_; rintro e w2 ⟨rfl, hb2⟩; obtain ⟨hc2, hf2⟩ := bcell hb2)
        go_round
        case rel => exact ⟨k + 1, l[k], by omega, by omega, by go_num, rfl, hid (by rw [Hs.out, Hs2.out]), hid (HS.out k hlt), hB.trans (hb2.mono hB.size)⟩
        case measure => simp [intOf]; omega
      · have Hs2 := hid (show minStep f m l[k] = m by simp [minStep, hn])
        go_wp2_with (go_at_call 76; refine (Hf.out l[k] m _ (HS.out k hlt) hSm.out hB).mono ?_; rintro e w2 ⟨rfl, hb2⟩; obtain ⟨hc2, hf2⟩ := bcell hb2)
        go_round
        case rel => exact ⟨k + 1, m, by omega, by omega, by go_num, rfl, hid (by rw [Hs.out, Hs2.out]), hSm, hB.trans (hb2.mono hB.size)⟩
        case measure => simp [intOf]; omega
    · have hm2 := hm.out
      rw [List.take_of_length_le (by omega)] at hm2
      go_wp2_with fail
      go_ret
      exact ⟨ret_int hm2, hB⟩

end Go.Proofs.Ytbjgebbfachgfaa
/- least. -/
namespace Go.Proofs.Ytbjgebbfachgfaa
open Go.RowKit

set_option maxHeartbeats 1000000 in
theorem least_any (f : Int → Int → Int) (S : Int → Prop) (B : Nat) (a : Option Addr) (c : Nat) (l : List Int) (w : World) (hl : l.length ≤ 1000) (ha : RdInts w a l) (hS : ∀ i (h : i < l.length), S l[i])
    (hf : ∀ x y w', S x → S y → Below w.heap.size w w' → Calls Try.prog 76 #[.int .i64 x, .int .i64 y, .pointer (some ⟨B, 0, none⟩)] w' fun e w'' => e = .returned (.int .i64 (f x y)) ∧ Below w'.heap.size w' w'') :
    Calls Try.prog 75 #[.slice a l.length c, .func (.func 76) #[] #[.pointer (some ⟨B, 0, none⟩)]] w fun e w' => e = .returned (.tuple #[.int .i64 (if l.length = 0 then 0 else minOf f l), .bool (decide (l.length ≠ 0))]) ∧ Below w.heap.size w w' := by
  have Hf := hid hf; clear hf
  have HS := hid hS; clear hS
  by_cases h0 : l.length = 0
  · have h0' : (l.length : Int) = 0 := by omega
    have E1 := hid (show (if l.length = 0 then 0 else minOf f l) = (0 : Int) by rw [if_pos h0])
    have E2 := hid (show decide (l.length ≠ 0) = false by simp [h0])
    rw [E1.out, E2.out]
    clear E1 E2
    go_enter Try.func75, Try.ntmps75
    go_wp2_with fail
    go_ret2
    exact ⟨rfl, Below.refl _ _⟩
  · have h1 : 0 < l.length := by omega
    have E1 := hid (show (if l.length = 0 then 0 else minOf f l) = minOf f l by rw [if_neg h0])
    have E2 := hid (show decide (l.length ≠ 0) = true by simp [h0])
    rw [E1.out, E2.out]
    clear E1 E2
    go_enter Try.func75, Try.ntmps75
    go_wp2_with (go_at_call 81; refine (minFunc_any f S B a c l w hl h1 ha HS.out Hf.out).mono ?_; rintro e w2 ⟨rfl, hb2⟩)
    go_ret2
    exact ⟨rfl, hb2⟩

end Go.Proofs.Ytbjgebbfachgfaa
/- A region that draws its order, by an invariant: what holds once so many operations are done. One goal for each operation, whatever the orders. -/
namespace Go.Proofs.Ytbjgebbfachgfaa
open Go.RowKit

def upd (L : Nat → Bool) (i : Nat) : Nat → Bool := fun j => if j = i then true else L j
def updS (s : Nat → Value) (d : Option Nat) (v : Value) : Nat → Value := match d with | some d => fun j => if j = d then v else s j | none => s
def setAll (a : Act) : List Nat → (Nat → Value) → Act
  | [], _ => a
  | d :: ds, s => (setAll a ds s).put (some d) (s d)

theorem setAll_get (a : Act) (s : Nat → Value) : ∀ (ds : List Nat) (k : Nat), (setAll a ds s).tmps[k]? = if k ∈ ds ∧ k < a.tmps.size then some (s k) else a.tmps[k]?
  | [], k => by simp [setAll]
  | d :: ds, k => by
    have hsz : ∀ ds, (setAll a ds s).tmps.size = a.tmps.size := by
      intro ds; induction ds with
      | nil => rfl
      | cons x xs ih => simp [setAll, Act.put, ih]
    have ih := setAll_get a s ds k
    simp only [setAll, Act.put, Array.getElem?_setIfInBounds, hsz, ih, List.mem_cons]
    by_cases h : d = k
    · subst h
      by_cases h2 : d < a.tmps.size
      · simp [h2]
      · simp [h2]
    · have h' : ¬ k = d := fun e => h e.symm
      simp [h, h']
theorem setAll_defers (a : Act) (s : Nat → Value) : ∀ ds : List Nat, (setAll a ds s).defers = a.defers
  | [] => rfl
  | d :: ds => by simp [setAll, Act.put, setAll_defers a s ds]
theorem Act.ext' {a b : Act} (h : a.tmps = b.tmps) (h2 : a.defers = b.defers) : a = b := by
  cases a; cases b; simp at h h2; subst h h2; rfl

theorem setAll_put (a : Act) (s : Nat → Value) (ds : List Nat) (d : Nat) (v : Value) (hd : d ∈ ds) : (setAll a ds s).put (some d) v = setAll a ds (updS s (some d) v) := by
  apply Act.ext'
  · apply Array.ext_getElem?
    intro k
    have hsz : ∀ ds, (setAll a ds s).tmps.size = a.tmps.size := by
      intro ds; induction ds with
      | nil => rfl
      | cons x xs ih => simp [setAll, Act.put, ih]
    rw [setAll_get]
    simp only [Act.put, Array.getElem?_setIfInBounds, hsz, setAll_get, updS]
    by_cases h : d = k
    · subst h; simp [hd]
      split <;> simp_all
    · have h' : ¬ k = d := fun e => h e.symm
      simp [h, h']
  · simp [setAll_defers, Act.put]

theorem setAll_self (a : Act) : ∀ ds : List Nat, setAll a ds (fun d => a.tmps.getD d undef) = a
  | ds => by
    apply Act.ext'
    · apply Array.ext_getElem?
      intro k
      rw [setAll_get]
      by_cases h : k ∈ ds ∧ k < a.tmps.size
      · rw [if_pos h]; simp [Array.getD_eq_getD_getElem?, h.2]
      · rw [if_neg h]
    · exact setAll_defers _ _ _

/-- what is asked of each operation -/
def invSteps (P : Program) (ops : Array Oper) (Q : Exit → Act → World → Prop) (a0 : Act) (ds : List Nat) (J : (Nat → Bool) → (Nat → Value) → World → Prop) : Nat → List Oper → Prop
  | _, [] => True
  | i, o :: os => (∀ (L : Nat → Bool) (s : Nat → Value) (w : World), L i = false → (∀ e ∈ o.after.toList, Region.binds .any e = true → L e.on = true) → J L s w →
      (∀ K : Act → World → Prop, (∀ v w', J (upd L i) (updS s o.dst v) w' → K ((setAll a0 ds s).put o.dst v) w') →
        if Region.wanted o (yielded ops (setAll a0 ds s).tmps) then o.wp P (setAll a0 ds s) w K Q else K ((setAll a0 ds s).put o.dst undef) w)) ∧ invSteps P ops Q a0 ds J (i + 1) os

theorem invSteps_get {P : Program} {ops : Array Oper} {Q : Exit → Act → World → Prop} {a0 : Act} {ds : List Nat} {J : (Nat → Bool) → (Nat → Value) → World → Prop} :
    ∀ (l : List Oper) (k i : Nat) (o : Oper), invSteps P ops Q a0 ds J k l → l[i]? = some o → (∀ (L : Nat → Bool) (s : Nat → Value) (w : World), L (k + i) = false → (∀ e ∈ o.after.toList, Region.binds .any e = true → L e.on = true) → J L s w →
      (∀ K : Act → World → Prop, (∀ v w', J (upd L (k + i)) (updS s o.dst v) w' → K ((setAll a0 ds s).put o.dst v) w') →
        if Region.wanted o (yielded ops (setAll a0 ds s).tmps) then o.wp P (setAll a0 ds s) w K Q else K ((setAll a0 ds s).put o.dst undef) w))
  | [], _, _, _, _, h => by simp at h
  | x :: l, k, 0, o, h, e => by
    simp at e; subst e; exact h.1
  | x :: l, k, i + 1, o, h, e => by
    have := invSteps_get l (k + 1) i o h.2 (by simpa using e)
    rw [show k + (i + 1) = k + 1 + i by omega]; exact this

def backB (ops : Array Oper) : Bool := (List.range ops.size).all fun i => ((ops[i]?).map fun o => o.after.all fun e => !Region.binds .any e || decide (e.on < i)).getD true
def dstB (ops : Array Oper) (ds : List Nat) : Bool := ops.all fun o => match o.dst with | some d => ds.contains d | none => true

theorem inv_any {P : Program} {ops : Array Oper} {Q : Exit → Act → World → Prop} {a0 : Act} {ds : List Nat} {J : (Nat → Bool) → (Nat → Value) → World → Prop}
    (hb : backB ops = true) (hd : dstB ops ds = true)
    (hs : invSteps P ops Q a0 ds J 0 ops.toList) (he : ∀ s w, J (fun j => decide (j < ops.size)) s w → Q .normal (setAll a0 ds s) w) :
    ∀ (fuel : Nat) (listed : Array Bool) (s : Nat → Value) (w : World), listed.size = ops.size → J (fun j => listed.getD j false) s w →
      (∀ j, j < ops.size → listed.getD j false = true) ∨ ((List.range ops.size).countP fun j => !listed.getD j false) ≤ fuel → wpAny P .any ops Q fuel listed (setAll a0 ds s) w := by
  have allOf : ∀ listed : Array Bool, listed.size = ops.size → Region.ready .any ops listed = [] → ∀ j, j < ops.size → listed.getD j false = true := by
    intro listed hsz hr j
    induction j using Nat.strongRecOn with
    | _ j ih =>
      intro hj
      cases hl : listed.getD j false with
      | true => rfl
      | false =>
        exfalso
        unfold Region.ready at hr
        rw [List.filter_eq_nil_iff] at hr
        have := hr j (by simpa using hj)
        apply this
        have hjl : j < listed.size := by omega
        have h1 : listed.getD j true = false := by simpa [Array.getD_eq_getD_getElem?, hjl] using hl
        rw [h1]
        simp only [Bool.not_false, Bool.true_and]
        unfold backB at hb
        rw [List.all_eq_true] at hb
        have hbj := hb j (by simpa using hj)
        simp only [Array.getElem?_eq_getElem hj, Option.map_some, Option.getD_some, Array.all_eq_true] at hbj ⊢
        intro k hk
        have hk1 := hbj k hk
        cases hbk : Region.binds .any ops[j].after[k] with
        | false => rfl
        | true =>
          have hlt : ops[j].after[k].on < j := by simpa [hbk] using hk1
          rw [ih _ hlt (by omega)]
          rfl
  have hfin : ∀ listed s w, listed.size = ops.size → J (fun j => listed.getD j false) s w → Region.ready .any ops listed = [] → Q .normal (setAll a0 ds s) w := by
    intro listed s w hsz hJ hr
    apply he
    have : (fun j => listed.getD j false) = fun j => decide (j < ops.size) := by
      funext j
      by_cases hj : j < ops.size
      · rw [allOf listed hsz hr j hj]; simp [hj]
      · have : ¬ j < listed.size := by omega
        simp [Array.getD_eq_getD_getElem?, hj, this]
    rw [this] at hJ; exact hJ
  intro fuel
  induction fuel with
  | zero =>
    intro listed s w hsz hJ hc
    have hall : ∀ j, j < ops.size → listed.getD j false = true := by
      rcases hc with h | h
      · exact h
      · intro j hj
        have h0 : ((List.range ops.size).countP fun j => !listed.getD j false) = 0 := by omega
        rw [List.countP_eq_zero] at h0
        have := h0 j (by simpa using hj)
        simpa using this
    have hr : Region.ready .any ops listed = [] := by
      unfold Region.ready
      rw [List.filter_eq_nil_iff]
      intro j hj
      simp at hj
      have := hall j hj
      have hjl : j < listed.size := by omega
      have h1 : listed.getD j true = true := by simpa [Array.getD_eq_getD_getElem?, hjl] using this
      simp [h1]
    exact ⟨hr, hfin listed s w hsz hJ hr⟩
  | succ fuel ih =>
    intro listed s w hsz hJ hc
    refine ⟨hfin listed s w hsz hJ, ?_⟩
    intro i hi
    unfold Region.ready at hi
    rw [List.mem_filter] at hi
    obtain ⟨hir, hi2⟩ := hi
    simp at hir
    rw [Bool.and_eq_true] at hi2
    obtain ⟨hi3, hi4⟩ := hi2
    have hil : i < listed.size := by omega
    have hL : listed.getD i false = false := by
      have : listed.getD i true = false := by simpa using hi3
      simpa [Array.getD_eq_getD_getElem?, hil] using this
    have ho : ops[i]? = some ops[i] := Array.getElem?_eq_getElem hir
    have hst := invSteps_get ops.toList 0 i ops[i] hs (by simpa using ho)
    simp only [Nat.zero_add] at hst
    rw [ho] at hi4
    simp only [Option.map_some, Option.getD_some, Array.all_eq_true] at hi4
    have hst2 := hst (fun j => listed.getD j false) s w hL (by
      intro e hem hbi
      obtain ⟨k, hk, rfl⟩ := List.mem_iff_getElem.1 hem
      have := hi4 k (by simpa using hk)
      simp at hbi
      simpa [hbi] using this) hJ (wpAny P .any ops Q fuel (listed.setIfInBounds i true)) (by
        intro v w' hJ'
        have hput : (setAll a0 ds s).put ops[i].dst v = setAll a0 ds (updS s ops[i].dst v) := by
          cases hdst : ops[i].dst with
          | none => rfl
          | some d =>
            apply setAll_put
            unfold dstB at hd
            rw [Array.all_eq_true] at hd
            have := hd i hir
            rw [hdst] at this
            simpa using this
        rw [hput]
        apply ih
        · simpa using hsz
        · have : (fun j => (listed.setIfInBounds i true).getD j false) = upd (fun j => listed.getD j false) i := by
            funext j
            simp only [upd, Array.getD_eq_getD_getElem?, Array.getElem?_setIfInBounds]
            by_cases h : i = j
            · subst h; simp [hil]
            · have h' : ¬ j = i := fun e => h e.symm
              simp [h, h']
          rw [this]; exact hJ'
        · right
          rcases hc with h | h
          · rw [h i hir] at hL; cases hL
          · have hlt : ((List.range ops.size).countP fun j => !(listed.setIfInBounds i true).getD j false) < ((List.range ops.size).countP fun j => !listed.getD j false) := by
              have hmono : ∀ l : List Nat, l.Nodup → i ∈ l → (l.countP fun j => !(listed.setIfInBounds i true).getD j false) + 1 = l.countP fun j => !listed.getD j false := by
                intro l
                induction l with
                | nil => intro _ h; cases h
                | cons x xs ihx =>
                  intro hn hm
                  rw [List.nodup_cons] at hn
                  have hxi : ∀ y, y ≠ i → (listed.setIfInBounds i true).getD y false = listed.getD y false := by
                    intro y hy
                    simp only [Array.getD_eq_getD_getElem?, Array.getElem?_setIfInBounds]
                    have h' : ¬ i = y := fun e => hy e.symm
                    simp [h']
                  rw [List.countP_cons, List.countP_cons]
                  by_cases hx : x = i
                  · subst hx
                    have hsame : (xs.countP fun j => !(listed.setIfInBounds x true).getD j false) = xs.countP fun j => !listed.getD j false := by
                      apply List.countP_congr
                      intro y hy
                      have : y ≠ x := fun e => hn.1 (e ▸ hy)
                      rw [hxi y this]
                    have h1 : (listed.setIfInBounds x true).getD x false = true := by simp [Array.getD_eq_getD_getElem?, hil]
                    rw [hsame, h1, hL]; simp
                  · have := ihx hn.2 (by rcases List.mem_cons.1 hm with h | h; exact absurd h.symm hx; exact h)
                    rw [hxi x hx]; omega
              have := hmono (List.range ops.size) List.nodup_range (by simpa using hir)
              omega
            omega)
    unfold wpOp
    rw [ho]
    simp only []
    split
    · rename_i hw; rw [if_pos hw] at hst2; exact .inl hst2
    · rename_i hw; rw [if_neg hw] at hst2; exact hst2

theorem wp_region_inv {P : Program} {id : Nat} {l : List Oper} {Q : Exit → Act → World → Prop} {a : Act} {w : World} (ds : List Nat) (J : (Nat → Bool) → (Nat → Value) → World → Prop)
    (hm : P.follows .mixedOrders = true) (hb : backB l.toArray = true) (hd : dstB l.toArray ds = true)
    (h0 : J (fun _ => false) (fun d => a.tmps.getD d undef) w.drew)
    (he : ∀ s w, J (fun j => decide (j < l.length)) s w → Q .normal (setAll a ds s) w)
    (hs : invSteps P l.toArray Q a ds J 0 l) : (Code.region id l.toArray true).wp P Q a w := by
  apply wp_region_any hm
  have := inv_any (P := P) (ops := l.toArray) (Q := Q) (a0 := a) (ds := ds) (J := J) hb hd (by simpa using hs) (by simpa using he) l.toArray.size (Array.replicate l.toArray.size false) (fun d => a.tmps.getD d undef) w.drew (by simp)
    (by
      have : (fun j => (Array.replicate l.toArray.size false).getD j false) = fun _ => false := by
        funext j
        simp only [Array.getD_eq_getD_getElem?, Array.getElem?_replicate]
        split <;> rfl
      rw [this]; exact h0)
    (.inr (Nat.le_trans List.countP_le_length (by simp)))
  rw [setAll_self] at this
  exact this

theorem len2 {α : Type} {l : List α} (h : l.length = 2) : ∃ a b, l = [a, b] := match l, h with | [a, b], _ => ⟨a, b, rfl⟩
theorem len3 {α : Type} {l : List α} (h : l.length = 3) : ∃ a b c, l = [a, b, c] := match l, h with | [a, b, c], _ => ⟨a, b, c, rfl⟩
theorem len4 {α : Type} {l : List α} (h : l.length = 4) : ∃ a b c d, l = [a, b, c, d] := match l, h with | [a, b, c, d], _ => ⟨a, b, c, d, rfl⟩
theorem len5 {α : Type} {l : List α} (h : l.length = 5) : ∃ a b c d e, l = [a, b, c, d, e] := match l, h with | [a, b, c, d, e], _ => ⟨a, b, c, d, e, rfl⟩
/-- a variable's block of m cells, made by the call itself from block N on; where C holds its cells are c -/
def Box (N m : Nat) (w : World) (p : Value) (C : Prop) (c : List Value) : Prop :=
  ∃ X, ∃ l : List Value, p = .pointer (some ⟨X, 0, none⟩) ∧ N ≤ X ∧ X < w.heap.size ∧ l.length = m ∧ (∀ i v, l[i]? = some v → w.cell? ⟨X, i, none⟩ = some v) ∧ (∀ o, w.frozen? ⟨X, o, none⟩ = false) ∧ (C → l = c)
theorem Box.at {N m : Nat} {w w' : World} {p : Value} {C C' : Prop} {c : List Value} (h : Box N m w p C c) (hb : Below w.heap.size w w') (hC : C' → C) : Box N m w' p C' c := by
  obtain ⟨X, l, hp, h1, h2, h3, h4, h5, h6⟩ := h
  obtain ⟨e1, e2⟩ := bcell hb
  exact ⟨X, l, hp, h1, Nat.lt_of_lt_of_le h2 hb.size, h3, fun i v hv => by rw [e1 _ _ h2]; exact h4 i v hv, fun o => by rw [e2 _ _ h2]; exact h5 o, fun hc => h6 (hC hc)⟩
theorem Box.far {N m : Nat} {w w' : World} {p : Value} {C C' : Prop} {c : List Value} {Y : Nat} (h : Box N m w p C c) (hY : p ≠ .pointer (some ⟨Y, 0, none⟩)) (hc : ∀ b o, b ≠ Y → w'.cell? ⟨b, o, none⟩ = w.cell? ⟨b, o, none⟩) (hf : ∀ b o, b ≠ Y → w'.frozen? ⟨b, o, none⟩ = w.frozen? ⟨b, o, none⟩) (hs : w.heap.size ≤ w'.heap.size) (hC : C' → C) : Box N m w' p C' c := by
  obtain ⟨X, l, hp, h1, h2, h3, h4, h5, h6⟩ := h
  have hX : X ≠ Y := fun e => hY (by rw [hp, e])
  exact ⟨X, l, hp, h1, Nat.lt_of_lt_of_le h2 hs, h3, fun i v hv => by rw [hc _ _ hX]; exact h4 i v hv, fun o => by rw [hf _ _ hX]; exact h5 o, fun hc => h6 (hC hc)⟩
theorem Box.new {N m : Nat} {w : World} {cs : Array Value} {T : TypeId} {C : Prop} {c : List Value} (hN : N ≤ w.heap.size) (hm : cs.size = m) (hC : C → cs.toList = c) : Box N m (w.alloc (.cells cs T)) (.pointer (some ⟨w.heap.size, 0, none⟩)) C c := by
  refine ⟨w.heap.size, cs.toList, rfl, hN, by simp, by simpa using hm, ?_, ?_, hC⟩
  · intro i v hv
    have hlt : i < cs.size := by
      rcases Nat.lt_or_ge i cs.toList.length with h | h
      · simpa using h
      · rw [List.getElem?_eq_none h] at hv; cases hv
    simp at hv
    have := World.news_of_block (cs := cs) (t := T) (fr := (0, 0)) (heap_alloc_new w (.cells cs T)) i v (by simpa using hv)
    have hadd : (⟨w.heap.size, 0, none⟩ : Addr).add i = ⟨w.heap.size, i, none⟩ := by unfold Addr.add; split <;> simp_all
    rw [hadd] at this; exact this
  · intro o; go_simp

theorem Box.setFar {N m : Nat} {w : World} {p : Value} {C : Prop} {c : List Value} {Y o : Nat} {u : Value} (h : Box N m w p C c) (hY : p ≠ .pointer (some ⟨Y, 0, none⟩)) : Box N m (w.setCell ⟨Y, o, none⟩ u) p C c :=
  h.far hY (fun b o' hb => World.cell?_setCell_other _ _ _ _ (fun e => by cases e; exact hb rfl)) (fun b o' _ => by go_simp) (by simp) id
theorem Box.mk3 {N : Nat} {w : World} {X : Nat} {C : Prop} {x0 x1 x2 : Value} (h1 : N ≤ X) (h2 : X < w.heap.size) (c0 : w.cell? ⟨X, 0, none⟩ = some x0) (c1 : w.cell? ⟨X, 1, none⟩ = some x1) (c2 : w.cell? ⟨X, 2, none⟩ = some x2) (hf : ∀ o, w.frozen? ⟨X, o, none⟩ = false) : Box N 3 w (.pointer (some ⟨X, 0, none⟩)) C [x0, x1, x2] := by
  refine ⟨X, _, rfl, h1, h2, rfl, ?_, hf, fun _ => rfl⟩
  intro i v hv
  match i, hv with
  | 0, hv => cases hv; exact c0
  | 1, hv => cases hv; exact c1
  | 2, hv => cases hv; exact c2

end Go.Proofs.Ytbjgebbfachgfaa
/- work$1: the comparison of the room's jobs. -/
namespace Go.Proofs.Ytbjgebbfachgfaa
open Go.RowKit

def workCmp (W : Work) (q : Qu) (a b : Nat) : Int := orOf [cmpL (rankOf W q a) (rankOf W q b), (a : Int) - b]
theorem rank_three (W : Work) (q : Qu) (k : Nat) : ∃ x y z, rankOf W q k = [x, y, z] := by unfold rankOf; split <;> exact ⟨_, _, _, rfl⟩

theorem rd3 {w : World} {X : Nat} {x0 x1 x2 : Int} (hX : X < w.heap.size) (g0 : w.cell? ⟨X, 0, none⟩ = some (.int .i64 x0)) (g1 : w.cell? ⟨X, 1, none⟩ = some (.int .i64 x1)) (g2 : w.cell? ⟨X, 2, none⟩ = some (.int .i64 x2)) : RdInts w (some ⟨X, 0, none⟩) [x0, x1, x2] := by
  refine .inr ⟨X, 0, rfl, hX, ?_⟩
  intro i x hi j v hj
  match j, hj with
  | 0, hj =>
    cases hj
    match i, hi with
    | 0, hi => cases hi; exact g0
    | 1, hi => cases hi; exact g1
    | 2, hi => cases hi; exact g2
theorem rd2 {w : World} {X : Nat} {x0 x1 : Int} (hX : X < w.heap.size) (g0 : w.cell? ⟨X, 0, none⟩ = some (.int .i64 x0)) (g1 : w.cell? ⟨X, 1, none⟩ = some (.int .i64 x1)) : RdInts w (some ⟨X, 0, none⟩) [x0, x1] := by
  refine .inr ⟨X, 0, rfl, hX, ?_⟩
  intro i x hi j v hj
  match j, hj with
  | 0, hj =>
    cases hj
    match i, hi with
    | 0, hi => cases hi; exact g0
    | 1, hi => cases hi; exact g1

/-- what holds of x, y while they are made -/
def WJ (N R : Nat) (w0 : World) (a b x0 x1 x2 y0 y1 y2 : Int) (L : Nat → Bool) (s : Nat → Value) (w : World) : Prop :=
  Below N w0 w ∧ N ≤ w.heap.size ∧ (L 0 = true → s 8 = .pointer (some ⟨R, 0, none⟩)) ∧ (L 1 = true → s 9 = .int .i64 a) ∧ (L 2 = true → s 10 = .agg #[.int .i64 x0, .int .i64 x1, .int .i64 x2]) ∧
    (L 3 = true → s 11 = .pointer (some ⟨R, 0, none⟩)) ∧ (L 4 = true → s 12 = .int .i64 b) ∧ (L 5 = true → s 13 = .agg #[.int .i64 y0, .int .i64 y1, .int .i64 y2]) ∧
    (L 6 = true → Box N 3 w (s 6) (L 8 = true) [.int .i64 x0, .int .i64 x1, .int .i64 x2]) ∧
    (L 7 = true → Box N 3 w (s 7) (L 9 = true) [.int .i64 y0, .int .i64 y1, .int .i64 y2]) ∧
    (L 6 = true → L 7 = true → s 6 ≠ s 7) ∧ (L 8 = true → L 6 = true) ∧ (L 9 = true → L 7 = true)

set_option maxRecDepth 100000 in
set_option maxHeartbeats 4000000 in
theorem workCmp_any (B R : Nat) (W : Work) (q : Qu) (aj af aq : Option Addr) (cj cf cq : Nat) (a b : Nat) (w : World) (hB : w.cell? ⟨B, 0, none⟩ = some (.pointer (some ⟨R, 0, none⟩))) (hBl : B < w.heap.size)
    (hR : RoomIn w R W q aj af aq cj cf cq) (hK : WOk W) (hQ : QOk W q) (ha : a < q.jobs.length) (hb : b < q.jobs.length) :
    Calls Try.prog 76 #[.int .i64 (a : Int), .int .i64 (b : Int), .pointer (some ⟨B, 0, none⟩)] w fun e w' => e = .returned (.int .i64 (workCmp W q a b)) ∧ Below w.heap.size w w' := by
  obtain ⟨x0, x1, x2, hx⟩ := rank_three W q a
  obtain ⟨y0, y1, y2, hy⟩ := rank_three W q b
  have HR := hid hR; clear hR
  have HK := hid hK; clear hK
  have HQ := hid hQ; clear hQ
  have Hx := hid hx; clear hx
  have Hy := hid hy; clear hy
  have HCB := hid hB
  go_enter Try.func76, Try.ntmps76
  go_wp2_with fail
  go_cut [6, 7] (fun p6 p7 wr => ∃ X Y : Nat, p6 = .pointer (some ⟨X, 0, none⟩) ∧ p7 = .pointer (some ⟨Y, 0, none⟩) ∧ X < wr.heap.size ∧ Y < wr.heap.size ∧ Below w.heap.size w wr ∧
      wr.cell? ⟨X, 0, none⟩ = some (.int .i64 x0) ∧ wr.cell? ⟨X, 1, none⟩ = some (.int .i64 x1) ∧ wr.cell? ⟨X, 2, none⟩ = some (.int .i64 x2) ∧ wr.cell? ⟨Y, 0, none⟩ = some (.int .i64 y0) ∧ wr.cell? ⟨Y, 1, none⟩ = some (.int .i64 y1) ∧ wr.cell? ⟨Y, 2, none⟩ = some (.int .i64 y2))
  case first =>
    refine wp_region_inv [6, 7, 8, 9, 10, 11, 12, 13] (WJ w.heap.size R w a b x0 x1 x2 y0 y1 y2) (by kernel_rfl) (by kernel_rfl) (by kernel_rfl) ?_ ?_ ⟨?_, ?_, ?_, ?_, ?_, ?_, ?_, ?_, ?_, ?_, trivial⟩
    · exact ⟨(Below.refl _ _).drew, Nat.le_refl _, by simp, by simp, by simp, by simp, by simp, by simp, by simp, by simp, by simp, by simp, by simp⟩
    · intro s w' ⟨hB, hN, j0, j1, j2, j3, j4, j5, j6, j7, jn, k8, k9⟩
      obtain ⟨X, l, hp, h1, h2, h3, h4, h5, h6⟩ := j6 rfl
      obtain ⟨Y, l', hp', h1', h2', h3', h4', h5', h6'⟩ := j7 rfl
      obtain rfl := h6 rfl
      obtain rfl := h6' rfl
      simp only [setAll, Act.put, List.setIfInBounds_toArray, List.set_cons_zero, List.set_cons_succ]
      have e0 := h4 0 _ rfl
      have e1 := h4 1 _ rfl
      have e2 := h4 2 _ rfl
      have f0 := h4' 0 _ rfl
      have f1 := h4' 1 _ rfl
      have f2 := h4' 2 _ rfl
      go_wp2_with fail
      go_meet
      exact ⟨X, Y, rfl, rfl, h2, h2', hB, e0, e1, e2, f0, f1, f2⟩
    · intro L s w' hL hd ⟨hB, hN, j0, j1, j2, j3, j4, j5, j6, j7, jn, k8, k9⟩ K hK
      clear hd
      have hc : w'.cell? ⟨B, 0, none⟩ = some (.pointer (some ⟨R, 0, none⟩)) := (hB.cell (p := ⟨B, 0, none⟩) hBl).trans HCB.out
      simp only [setAll, Act.put, List.setIfInBounds_toArray, List.set_cons_zero, List.set_cons_succ] at hK ⊢
      go_simp
      exact hK _ _ ⟨hB, hN, by simp [upd, updS], by simpa [upd, updS] using j1, by simpa [upd, updS] using j2, by simpa [upd, updS] using j3, by simpa [upd, updS] using j4, by simpa [upd, updS] using j5, by simpa [upd, updS] using j6, by simpa [upd, updS] using j7, by simpa [upd, updS] using jn, by simpa [upd, updS] using k8, by simpa [upd, updS] using k9⟩
    · intro L s w' hL hd ⟨hB, hN, j0, j1, j2, j3, j4, j5, j6, j7, jn, k8, k9⟩ K hK
      clear hd
      simp only [setAll, Act.put, List.setIfInBounds_toArray, List.set_cons_zero, List.set_cons_succ] at hK ⊢
      go_simp
      exact hK _ _ ⟨hB, hN, by simpa [upd, updS] using j0, by simp [upd, updS], by simpa [upd, updS] using j2, by simpa [upd, updS] using j3, by simpa [upd, updS] using j4, by simpa [upd, updS] using j5, by simpa [upd, updS] using j6, by simpa [upd, updS] using j7, by simpa [upd, updS] using jn, by simpa [upd, updS] using k8, by simpa [upd, updS] using k9⟩
    · intro L s w' hL hd ⟨hB, hN, j0, j1, j2, j3, j4, j5, j6, j7, jn, k8, k9⟩ K hK
      have d0 := hd ⟨0, .data⟩ (by simp) rfl
      have d1 := hd ⟨1, .data⟩ (by simp) rfl
      have d0' := j0 d0
      have d1' := j1 d1
      clear hd
      simp only [setAll, Act.put, List.setIfInBounds_toArray, List.set_cons_zero, List.set_cons_succ] at hK ⊢
      rw [d0', d1'] at hK ⊢
      go_simp
      refine (rank_any R W q aj af aq cj cf cq a _ (HR.out.at hB) HK.out HQ.out ha).mono ?_
      rintro e w2 ⟨z0, z1, z2, hz, rfl, hb2⟩
      rw [Hx.out] at hz
      cases hz
      exact hK _ _ ⟨hB.trans (hb2.mono hN), Nat.le_trans hN hb2.size, by simpa [upd, updS] using j0, by simpa [upd, updS] using j1, by simp [upd, updS], by simpa [upd, updS] using j3, by simpa [upd, updS] using j4, by simpa [upd, updS] using j5, by simp only [upd, updS]; exact fun h => (j6 h).at hb2 id, by simp only [upd, updS]; exact fun h => (j7 h).at hb2 id, by simpa [upd, updS] using jn, by simpa [upd, updS] using k8, by simpa [upd, updS] using k9⟩
    · intro L s w' hL hd ⟨hB, hN, j0, j1, j2, j3, j4, j5, j6, j7, jn, k8, k9⟩ K hK
      clear hd
      have hc : w'.cell? ⟨B, 0, none⟩ = some (.pointer (some ⟨R, 0, none⟩)) := (hB.cell (p := ⟨B, 0, none⟩) hBl).trans HCB.out
      simp only [setAll, Act.put, List.setIfInBounds_toArray, List.set_cons_zero, List.set_cons_succ] at hK ⊢
      go_simp
      exact hK _ _ ⟨hB, hN, by simpa [upd, updS] using j0, by simpa [upd, updS] using j1, by simpa [upd, updS] using j2, by simp [upd, updS], by simpa [upd, updS] using j4, by simpa [upd, updS] using j5, by simpa [upd, updS] using j6, by simpa [upd, updS] using j7, by simpa [upd, updS] using jn, by simpa [upd, updS] using k8, by simpa [upd, updS] using k9⟩
    · intro L s w' hL hd ⟨hB, hN, j0, j1, j2, j3, j4, j5, j6, j7, jn, k8, k9⟩ K hK
      clear hd
      simp only [setAll, Act.put, List.setIfInBounds_toArray, List.set_cons_zero, List.set_cons_succ] at hK ⊢
      go_simp
      exact hK _ _ ⟨hB, hN, by simpa [upd, updS] using j0, by simpa [upd, updS] using j1, by simpa [upd, updS] using j2, by simpa [upd, updS] using j3, by simp [upd, updS], by simpa [upd, updS] using j5, by simpa [upd, updS] using j6, by simpa [upd, updS] using j7, by simpa [upd, updS] using jn, by simpa [upd, updS] using k8, by simpa [upd, updS] using k9⟩
    · intro L s w' hL hd ⟨hB, hN, j0, j1, j2, j3, j4, j5, j6, j7, jn, k8, k9⟩ K hK
      have d3 := hd ⟨3, .data⟩ (by simp) rfl
      have d4 := hd ⟨4, .data⟩ (by simp) rfl
      have d3' := j3 d3
      have d4' := j4 d4
      clear hd
      simp only [setAll, Act.put, List.setIfInBounds_toArray, List.set_cons_zero, List.set_cons_succ] at hK ⊢
      rw [d3', d4'] at hK ⊢
      go_simp
      refine (rank_any R W q aj af aq cj cf cq b _ (HR.out.at hB) HK.out HQ.out hb).mono ?_
      rintro e w2 ⟨z0, z1, z2, hz, rfl, hb2⟩
      rw [Hy.out] at hz
      cases hz
      exact hK _ _ ⟨hB.trans (hb2.mono hN), Nat.le_trans hN hb2.size, by simpa [upd, updS] using j0, by simpa [upd, updS] using j1, by simpa [upd, updS] using j2, by simpa [upd, updS] using j3, by simpa [upd, updS] using j4, by simp [upd, updS], by simp only [upd, updS]; exact fun h => (j6 h).at hb2 id, by simp only [upd, updS]; exact fun h => (j7 h).at hb2 id, by simpa [upd, updS] using jn, by simpa [upd, updS] using k8, by simpa [upd, updS] using k9⟩
    · intro L s w' hL hd ⟨hB, hN, j0, j1, j2, j3, j4, j5, j6, j7, jn, k8, k9⟩ K hK
      clear hd
      have h8 : ¬ L 8 = true := fun h => by rw [k8 h] at hL; cases hL
      simp only [setAll, Act.put, List.setIfInBounds_toArray, List.set_cons_zero, List.set_cons_succ] at hK ⊢
      go_simp
      refine hK _ _ ⟨hB.alloc hN _, by simp; omega, by simpa [upd, updS] using j0, by simpa [upd, updS] using j1, by simpa [upd, updS] using j2, by simpa [upd, updS] using j3, by simpa [upd, updS] using j4, by simpa [upd, updS] using j5, ?_, ?_, ?_, ?_, by simpa [upd, updS] using k9⟩
      · simp only [upd, updS]
        exact fun _ => Box.new hN rfl fun h => absurd h h8
      · simp only [upd, updS]
        exact fun h => (j7 h).at ((Below.refl _ _).alloc (Nat.le_refl _) _) id
      · simp only [upd, updS]
        intro _ h7 e
        obtain ⟨Y, _, hp, _, h2, _⟩ := j7 h7
        rw [hp] at e; cases e; omega
      · simp [upd]
    · intro L s w' hL hd ⟨hB, hN, j0, j1, j2, j3, j4, j5, j6, j7, jn, k8, k9⟩ K hK
      clear hd
      have h9 : ¬ L 9 = true := fun h => by rw [k9 h] at hL; cases hL
      simp only [setAll, Act.put, List.setIfInBounds_toArray, List.set_cons_zero, List.set_cons_succ] at hK ⊢
      go_simp
      refine hK _ _ ⟨hB.alloc hN _, by simp; omega, by simpa [upd, updS] using j0, by simpa [upd, updS] using j1, by simpa [upd, updS] using j2, by simpa [upd, updS] using j3, by simpa [upd, updS] using j4, by simpa [upd, updS] using j5, ?_, ?_, ?_, by simpa [upd, updS] using k8, ?_⟩
      · simp only [upd, updS]
        exact fun h => (j6 h).at ((Below.refl _ _).alloc (Nat.le_refl _) _) id
      · simp only [upd, updS]
        exact fun _ => Box.new hN rfl fun h => absurd h h9
      · simp only [upd, updS]
        intro h6 _ e
        obtain ⟨Y, _, hp, _, h2, _⟩ := j6 h6
        simp at e
        rw [hp] at e; cases e; omega
      · simp [upd]
    · intro L s w' hL hd ⟨hB, hN, j0, j1, j2, j3, j4, j5, j6, j7, jn, k8, k9⟩ K hK
      have d2 := j2 (hd ⟨2, .data⟩ (by simp) rfl)
      have d6 := hd ⟨6, .data⟩ (by simp) rfl
      clear hd
      have hb6 := j6 d6
      clear hL
      simp only [setAll, Act.put, List.setIfInBounds_toArray, List.set_cons_zero, List.set_cons_succ] at hK ⊢
      rw [if_pos (by rfl)]
      obtain ⟨X, l, hp, h1, h2, h3, h4, h5, h6⟩ := hb6
      obtain ⟨v0, v1, v2, rfl⟩ := len3 h3
      have e0 := h4 0 _ rfl
      have e1 := h4 1 _ rfl
      have e2 := h4 2 _ rfl
      have jn' : L 7 = true → s 7 ≠ .pointer (some ⟨X, 0, none⟩) := by
        intro h e
        exact jn d6 h (by rw [hp, e])
      clear h4 h6
      rw [d2, hp] at hK ⊢
      go_simp
      have HS := hid hp
      clear hp
      refine hK undef _ ⟨((hB.setCell h1 _).setCell h1 _).setCell h1 _, by simpa using hN, by simpa [upd, updS] using j0, by simpa [upd, updS] using j1, by simpa [upd, updS] using j2, by simpa [upd, updS] using j3, by simpa [upd, updS] using j4, by simpa [upd, updS] using j5, ?_, ?_, by simpa [upd, updS] using jn, ?_, ?_⟩
      · simp only [upd, updS]
        intro _
        rw [HS.out]
        exact Box.mk3 h1 (by simpa using h2) (by go_simp) (by go_simp) (by go_simp) (by intro o; go_simp)
      · simp only [upd, updS]
        exact fun h => (((j7 h).setFar (jn' h)).setFar (jn' h)).setFar (jn' h)
      · simp [upd, updS]; first | exact d6 | exact k8
      · simp [upd, updS]; first | exact d6 | exact k9
    · intro L s w' hL hd ⟨hB, hN, j0, j1, j2, j3, j4, j5, j6, j7, jn, k8, k9⟩ K hK
      have d2 := j5 (hd ⟨5, .data⟩ (by simp) rfl)
      have d6 := hd ⟨7, .data⟩ (by simp) rfl
      clear hd
      have hb6 := j7 d6
      clear hL
      simp only [setAll, Act.put, List.setIfInBounds_toArray, List.set_cons_zero, List.set_cons_succ] at hK ⊢
      rw [if_pos (by rfl)]
      obtain ⟨X, l, hp, h1, h2, h3, h4, h5, h6⟩ := hb6
      obtain ⟨v0, v1, v2, rfl⟩ := len3 h3
      have e0 := h4 0 _ rfl
      have e1 := h4 1 _ rfl
      have e2 := h4 2 _ rfl
      have jn' : L 6 = true → s 6 ≠ .pointer (some ⟨X, 0, none⟩) := by
        intro h e
        exact jn h d6 (by rw [hp, e])
      clear h4 h6
      rw [d2, hp] at hK ⊢
      go_simp
      have HS := hid hp
      clear hp
      refine hK undef _ ⟨((hB.setCell h1 _).setCell h1 _).setCell h1 _, by simpa using hN, by simpa [upd, updS] using j0, by simpa [upd, updS] using j1, by simpa [upd, updS] using j2, by simpa [upd, updS] using j3, by simpa [upd, updS] using j4, by simpa [upd, updS] using j5, ?_, ?_, by simpa [upd, updS] using jn, ?_, ?_⟩
      · simp only [upd, updS]
        exact fun h => (((j6 h).setFar (jn' h)).setFar (jn' h)).setFar (jn' h)
      · simp only [upd, updS]
        intro _
        rw [HS.out]
        exact Box.mk3 h1 (by simpa using h2) (by go_simp) (by go_simp) (by go_simp) (by intro o; go_simp)
      · simp [upd, updS]; first | exact d6 | exact k8
      · simp [upd, updS]; first | exact d6 | exact k9
  case rest =>
    obtain ⟨X, Y, rfl, rfl, hX, hY, hBw, g0, g1, g2, k0, k1, k2⟩ := hcut
    clear hB HCB hBl
    have hZ : X < wc.heap.size + 1 := by omega
    have hZ' : Y < wc.heap.size + 1 := by omega
    have rx : RdInts wc (some ⟨X, 0, none⟩) [x0, x1, x2] := rd3 hX g0 g1 g2
    have ry : RdInts wc (some ⟨Y, 0, none⟩) [y0, y1, y2] := rd3 hY k0 k1 k2
    have hm : IntKind.i64.wrap ((a : Int) - b) = (a : Int) - b := by have := HK.out.jl; have := HQ.out.len; exact IntWalk.i64_in _ (by omega)
    have Hv : Hid (workCmp W q a b = orOf [cmpL [x0, x1, x2] [y0, y1, y2], (a : Int) - b]) := by show _ = _; unfold workCmp; rw [Hx.out, Hy.out]
    clear ha hb
    go_wp2_with fail
    go_region_with (first | (go_at_call 79; refine (compare_any (some ⟨X, 0, none⟩) (some ⟨Y, 0, none⟩) 3 3 [x0, x1, x2] [y0, y1, y2] _ (by simp) rfl (rx.at ((Below.refl _ _).drew)) (ry.at ((Below.refl _ _).drew))).mono ?_; rintro e w2 ⟨rfl, rfl⟩) | (go_at_call 78; refine (or_any (some ⟨wc.heap.size, 0, none⟩) 2 [cmpL [x0, x1, x2] [y0, y1, y2], (a : Int) - b] _ (by simp) (rd2 (by simp) (by go_simp) (by go_simp))).mono ?_; rintro e w2 ⟨rfl, rfl⟩))
    go_wp2_with fail
    go_ret
    have hsz := hBw.size
    exact ⟨ret_int Hv.out.symm, (by repeat (first | (with_reducible exact hBw) | (with_reducible refine bdrewN ?_ _) | (with_reducible refine Below.drew ?_) | (with_reducible refine Below.setCell ?_ (by first | omega | (simp; done) | (simp; omega)) _) | (with_reducible refine Below.alloc ?_ (by first | omega | (simp; done) | (simp; omega)) _)))⟩

end Go.Proofs.Ytbjgebbfachgfaa
