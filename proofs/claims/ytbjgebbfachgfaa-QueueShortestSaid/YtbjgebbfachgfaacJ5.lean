/- Texts of this proof, joined: W29 PureN. -/
import Derived.Test.YtbjgebbfachgfaacJ4
set_option linter.unusedVariables false
set_option linter.unusedSimpArgs false
set_option linter.unusedSectionVars false
set_option linter.all false
/- the room's idle. -/
namespace Go.Proofs.Ytbjgebbfachgfaa
open Go.RowKit

/-- when the jobs below k that wait arrive -/
def waitUpto (W : Work) (q : Qu) (k : Nat) : List Int := ((List.range k).filter fun i => (q.st i).why == 0).map fun (i : Nat) => (W.job i).arrive
theorem wait_yes {W : Work} {q : Qu} {k : Nat} (hk : k < q.jobs.length) (hk' : k < W.jobs.length) (h : (q.jobs[k].why == 0) = true) : waitUpto W q (k + 1) = waitUpto W q k ++ [W.jobs[k].arrive] := by
  unfold waitUpto; rw [List.range_succ, List.filter_append, List.map_append]; simp [Qu.st_eq hk, Work.job_eq hk', h]
theorem wait_no {W : Work} {q : Qu} {k : Nat} (hk : k < q.jobs.length) (h : (q.jobs[k].why == 0) = false) : waitUpto W q (k + 1) = waitUpto W q k := by
  unfold waitUpto; rw [List.range_succ, List.filter_append, List.map_append]; simp [Qu.st_eq hk, h]
theorem wait_len (W : Work) (q : Qu) (k : Nat) : (waitUpto W q k).length ≤ k := by
  unfold waitUpto; rw [List.length_map]; exact Nat.le_trans (List.length_filter_le _ _) (by simp)
def fltL (W : Work) (now : Int) : Int × Bool := firstOf now (W.faults.map Fault.at0)
def idleMin (W : Work) (q : Qu) : Int := (firstOf q.now (waitUpto W q q.jobs.length ++ if (fltL W q.now).2 then [(fltL W q.now).1] else [])).1
def idleSp (W : Work) (q : Qu) : Spell := if 0 < (readyUpto W q q.jobs.length).length then Spell.zero else ⟨6, -1, q.now, idleMin W q⟩

theorem Own.rd' {α : Type} {f : α → List Value} {m : Nat} (hf : ∀ x, (f x).length = m) {T : TypeId} {base : Nat} {w : World} {v : Value} {l : List α} (h : Own f m T base w v l) {a : Option Addr} {n c : Nat} (hv : v = .slice a n c) : Rd f m w a l := by
  obtain ⟨a', c', h1, h2, _⟩ := Own.rd hf h
  rw [h1] at hv; cases hv; exact h2
theorem fault_n (R : Nat) (W : Work) (q : Qu) (aj af aq : Option Addr) (cj cf cq : Nat) (fa : Int) (fb : Bool) (w : World) (hR : RoomIn w R W q aj af aq cj cf cq) (hK : WOk W) (hF : firstOf q.now (W.faults.map Fault.at0) = (fa, fb)) :
    Calls Try.prog 73 #[.pointer (some ⟨R, 0, none⟩)] w fun e w' => e = .returned (.tuple #[.int .i64 fa, .bool fb]) ∧ Below w.heap.size w w' := by
  have := fault_any R W q aj af aq cj cf cq w hR hK
  rw [hF] at this; exact this

set_option maxRecDepth 100000 in
set_option maxHeartbeats 4000000 in
theorem idle_any (R : Nat) (W : Work) (q : Qu) (aj af aq : Option Addr) (cj cf cq : Nat) (w : World) (hR : RoomIn w R W q aj af aq cj cf cq) (hK : WOk W) (hQ : QOk W q) :
    Calls Try.prog 66 #[.pointer (some ⟨R, 0, none⟩)] w fun e w' => e = .returned (.agg #[.int .i64 (idleSp W q).kind, .int .i64 (idleSp W q).job, .int .i64 (idleSp W q).from0, .int .i64 (idleSp W q).until0]) ∧ Below w.heap.size w w' := by
  obtain ⟨i0, hi0, hz0, hz1, hz2⟩ := info_parts info_int
  have hRl := hR.lt
  have hlen := hQ.len
  have hle : q.jobs.length ≤ 12 := by have := hK.jl; omega
  have hle2 : q.jobs.length ≤ W.jobs.length := by omega
  clear hlen
  have HR := hid hR; clear hR
  have HK := hid hK; clear hK
  have HQ := hid hQ; clear hQ
  go_enter Try.func66, Try.ntmps66
  go_wp2_with fail
  refine (ready_any R W q aj af aq cj cf cq _ (HR.out.at (by repeat (first | (with_reducible exact Below.refl _ _) | (with_reducible refine bdrewN ?_ _) | (with_reducible refine Below.drew ?_) | (with_reducible refine Below.setCell ?_ (by first | omega | (simp; done) | (simp; omega)) _) | (with_reducible refine Below.alloc ?_ (by first | omega | (simp; done) | (simp; omega)) _)))) HK.out HQ.out).mono ?_
  rintro e w2 ⟨v, rfl, hO, hb2⟩
  obtain ⟨av, cv, rfl, hrd, _⟩ := Own.rd (f := fun n : Int => [Value.int .i64 n]) (m := 1) (fun _ => rfl) hO
  clear hO hrd
  have hs2 : w.heap.size < w2.heap.size := by have := hb2.size; simp at this; omega
  have c0 : w2.cell? ⟨w.heap.size, 0, none⟩ = some (.int .i64 0) := by rw [hb2.cell (p := ⟨w.heap.size, 0, none⟩) (by simp)]; go_simp
  have c1 : w2.cell? ⟨w.heap.size, 1, none⟩ = some (.int .i64 0) := by rw [hb2.cell (p := ⟨w.heap.size, 1, none⟩) (by simp)]; go_simp
  have c2 : w2.cell? ⟨w.heap.size, 2, none⟩ = some (.int .i64 0) := by rw [hb2.cell (p := ⟨w.heap.size, 2, none⟩) (by simp)]; go_simp
  have c3 : w2.cell? ⟨w.heap.size, 3, none⟩ = some (.int .i64 0) := by rw [hb2.cell (p := ⟨w.heap.size, 3, none⟩) (by simp)]; go_simp
  have cfz : ∀ o, w2.frozen? ⟨w.heap.size, o, none⟩ = false := by intro o; rw [hb2.frozen (p := ⟨w.heap.size, o, none⟩) (by simp)]; go_simp
  have HB2 := hid (Below.trans (by repeat (first | (with_reducible exact Below.refl _ w) | (with_reducible refine bdrewN ?_ _) | (with_reducible refine Below.drew ?_) | (with_reducible refine Below.setCell ?_ (by first | omega | (simp; done) | (simp; omega)) _) | (with_reducible refine Below.alloc ?_ (by first | omega | (simp; done) | (simp; omega)) _))) (hb2.mono (by simp)) : Below w.heap.size w w2)
  by_cases h0 : 0 < (readyUpto W q q.jobs.length).length
  · have Hv := hid (show idleSp W q = Spell.zero by unfold idleSp; rw [if_pos h0])
    go_wp2_with fail
    refine bodyPost_ret (v := .agg #[.int .i64 0, .int .i64 0, .int .i64 0, .int .i64 0]) (res_c Try.results66 rfl (load_spell ?_ ?_ ?_ ?_)) rfl ⟨by rw [Hv.out]; rfl, (by repeat (first | (with_reducible exact HB2.out) | (with_reducible refine bdrewN ?_ _) | (with_reducible refine Below.drew ?_) | (with_reducible refine Below.setCell ?_ (by first | omega | (simp; done) | (simp; omega)) _) | (with_reducible refine Below.alloc ?_ (by first | omega | (simp; done) | (simp; omega)) _)))⟩
    all_goals go_simp
  · have Hv := hid (show idleSp W q = ⟨6, -1, q.now, idleMin W q⟩ by unfold idleSp; rw [if_neg h0])
    have h0' : ((readyUpto W q q.jobs.length).length : Int) = 0 := by omega
    generalize (readyUpto W q q.jobs.length).length = nr at *
    obtain rfl : nr = 0 := by omega
    clear h0 h0'
    have r5 := (HR.out.at HB2.out).c5
    have r7 := (HR.out.at HB2.out).c7
    have r8 := (HR.out.at HB2.out).c8
    have hR2 : R < w2.heap.size := by omega
    clear hb2
    go_wp2_with fail
    go_loopw [3, 22] (fun s i wr => ∃ k : Nat, ∃ v : Value, k ≤ q.jobs.length ∧ i = .int .i64 k ∧ v = s ∧ Hid (OwnInts w2.heap.size wr v (waitUpto W q k)) ∧ Below w2.heap.size w2 wr) (fun _ i _ => q.jobs.length - (intOf i).toNat)
    case atStart => exact ⟨0, _, Nat.zero_le _, rfl, rfl, hid (Own.nil _ _ _ _ _), Below.refl _ _⟩
    case round =>
      obtain ⟨k, v, hk, rfl, rfl, hO, hB⟩ := hrel
      obtain ⟨hc, hf⟩ := bcell hB
      have hsz := hB.size
      have hRr : R < wr.heap.size := by omega
      by_cases hlt : k < q.jobs.length
      · have hlt' : k < W.jobs.length := by omega
        obtain ⟨b1, off, rfl, hb1, d1, d2, d3, d4⟩ := RdJobs.ne (HR.out.at HB2.out).wk.jobs hlt'
        obtain ⟨b2, off2, rfl, hb2, e1, e2, e3, e4, e5⟩ := RdSts.ne (HR.out.at HB2.out).sts hlt
        have k1 : b1 < wr.heap.size := by omega
        have k2 : b2 < wr.heap.size := by omega
        have x1 : (k : Int) < (q.jobs.length : Int) := by omega
        have x2 : (k : Int) < (W.jobs.length : Int) := by omega
        rcases beq_or q.jobs[k].why 0 with t1 | t1
        · have Hy := hid (wait_yes (W := W) (q := q) (k := k) hlt hlt' t1)
          have hnl := wait_len W q k
          obtain ⟨n, hn⟩ : ∃ n, (waitUpto W q k).length = n := ⟨_, rfl⟩
          have ho : wr.ownsRow w2.heap.size 3 1 v n ((waitUpto W q k).flatMap fun n : Int => [Value.int .i64 n]) := by have := hO.out; unfold OwnInts Own at this; rw [hn] at this; exact this
          rw [hn] at hnl
          have Hn := hid hn; clear hn
          have hm1 : n + 1 ≤ maxLen := by unfold maxLen; omega
          have hm2 : (n + 1) * 8 ≤ 140737488355328 := by omega
          have hm3 : w2.heap.size ≤ wr.heap.size + 1 + 1 := by omega
          go_wp2_with (at_builtin; refine append1 (wr.heap.size + 1) (by simp) rfl _ _ 48 rfl w2.heap.size 3 i0 _ 1 8 Try.underlying48 hi0 hz0 hz1 hz2 rfl (by decide) v n _ rfl (by exact ho.alloc _) 1 rfl rfl (by simp [Value.oneCell']) hm1 hm2 hm3 ?_; intro g cap w3 ho3 hg3 hb3 hs4)
          go_roundw
          case rel =>
            refine ⟨k + 1, _, by omega, by go_num, rfl, hid (Own.of (n := n + 1) (by rw [Hy.out, List.length_append, Hn.out]; rfl) (by rw [Hy.out, List.flatMap_append]; rfl) ho3), ((show Below w2.heap.size w2 _ from (by repeat (first | (with_reducible exact hB) | (with_reducible refine bdrewN ?_ _) | (with_reducible refine Below.drew ?_) | (with_reducible refine Below.setCell ?_ (by first | omega | (simp; done) | (simp; omega)) _) | (with_reducible refine Below.alloc ?_ (by first | omega | (simp; done) | (simp; omega)) _)))).grown hg3 (by simp <;> omega) (fun j hj => (World.ownsRow.lt ho _ hj).1))⟩
          case measure => simp [intOf]; omega
        · have Hy := hid (wait_no (W := W) (q := q) (k := k) hlt t1)
          go_wp2_with fail
          go_roundw
          case rel => exact ⟨k + 1, v, by omega, by go_num, rfl, hid (by rw [Hy.out]; exact (by repeat (first | (with_reducible exact hO.out) | (with_reducible refine Own.drewN ?_ _) | (with_reducible refine Own.drew ?_) | (with_reducible refine Own.setNe ?_ (by first | omega | (simp; done) | (simp; omega)) _) | (with_reducible refine Own.alloc ?_ _)))), (by repeat (first | (with_reducible exact hB) | (with_reducible refine bdrewN ?_ _) | (with_reducible refine Below.drew ?_) | (with_reducible refine Below.setCell ?_ (by first | omega | (simp; done) | (simp; omega)) _) | (with_reducible refine Below.alloc ?_ (by first | omega | (simp; done) | (simp; omega)) _)))⟩
          case measure => simp [intOf]; omega
      · have hkl : k = q.jobs.length := by omega
        have hOf := hO.out
        rw [hkl] at hOf
        have HOf := hid hOf; clear hOf hkl hO
        have HB3 := hid (Below.trans HB2.out (hB.mono HB2.out.size) : Below w.heap.size w wr)
        clear hc hf r5 r7 r8
        have cc0 : wr.cell? ⟨w.heap.size, 0, none⟩ = some (.int .i64 0) := (hB.cell (p := ⟨w.heap.size, 0, none⟩) hs2).trans c0
        have cc1 : wr.cell? ⟨w.heap.size, 1, none⟩ = some (.int .i64 0) := (hB.cell (p := ⟨w.heap.size, 1, none⟩) hs2).trans c1
        have cc2 : wr.cell? ⟨w.heap.size, 2, none⟩ = some (.int .i64 0) := (hB.cell (p := ⟨w.heap.size, 2, none⟩) hs2).trans c2
        have cc3 : wr.cell? ⟨w.heap.size, 3, none⟩ = some (.int .i64 0) := (hB.cell (p := ⟨w.heap.size, 3, none⟩) hs2).trans c3
        have ccf : ∀ o, wr.frozen? ⟨w.heap.size, o, none⟩ = false := fun o => (hB.frozen (p := ⟨w.heap.size, o, none⟩) hs2).trans (cfz o)
        have hnl := wait_len W q q.jobs.length
        obtain ⟨n, hn⟩ : ∃ n, (waitUpto W q q.jobs.length).length = n := ⟨_, rfl⟩
        rw [hn] at hnl
        have Hn := hid hn; clear hn
        have Hm := hid (show idleMin W q = (firstOf q.now (waitUpto W q q.jobs.length ++ if (firstOf q.now (W.faults.map Fault.at0)).2 then [(firstOf q.now (W.faults.map Fault.at0)).1] else [])).1 from rfl)
        generalize hmm : idleMin W q = mm at *
        generalize hF : firstOf q.now (W.faults.map Fault.at0) = F at *
        have HF := hid hF; clear hF hmm
        obtain ⟨fa, fb⟩ := F
        have hm1 : n + 1 ≤ maxLen := by unfold maxLen; omega
        have hm2 : (n + 1) * 8 ≤ 140737488355328 := by omega
        have hfl : wr.heap.size ≤ wr.heap.size := Nat.le_refl _
        cases fb with
        | true =>
          go_wp2_with fail
          refine (fault_n R W q aj af aq cj cf cq fa true _ (HR.out.at HB3.out) HK.out HF.out).mono ?_
          rintro e w4 ⟨rfl, hb4⟩
          obtain ⟨hc4, hf4⟩ := bcell hb4
          have hs4 := hb4.size
          have hs6 : w.heap.size < wr.heap.size := by omega
          have hO4 : OwnInts w2.heap.size w4 v (waitUpto W q q.jobs.length) := HOf.out.at hb4
          have ho : w4.ownsRow w2.heap.size 3 1 v n ((waitUpto W q q.jobs.length).flatMap fun n : Int => [Value.int .i64 n]) := by have := hO4; unfold OwnInts Own at this; rw [Hn.out] at this; exact this
          have hm3 : w2.heap.size ≤ w4.heap.size + 1 := by omega
          go_wp2_with (at_builtin; refine append1 w4.heap.size rfl rfl _ _ 48 rfl w2.heap.size 3 i0 _ 1 8 Try.underlying48 hi0 hz0 hz1 hz2 rfl (by decide) v n _ rfl ho 1 rfl rfl (by simp [Value.oneCell']) hm1 hm2 hm3 ?_; intro g cap w5 ho5 hg5 hb5 hs5; have hB5 : Below w2.heap.size w2 w5 := (Below.alloc (hB.trans (hb4.mono hsz)) (by omega) _).grown hg5 (by simp; omega) (fun j hj => (World.ownsRow.lt ho _ hj).1); have HB6 := hid (Below.trans HB2.out (hB5.mono HB2.out.size) : Below w.heap.size w w5); have R5 := HR.out.at HB6.out; have r7 := R5.c7; have hR5 : R < w5.heap.size := R5.lt; have d0 : w5.cell? ⟨w.heap.size, 0, none⟩ = some (.int .i64 0) := (hB5.cell (p := ⟨w.heap.size, 0, none⟩) hs2).trans c0; have d1 : w5.cell? ⟨w.heap.size, 1, none⟩ = some (.int .i64 0) := (hB5.cell (p := ⟨w.heap.size, 1, none⟩) hs2).trans c1; have d2 : w5.cell? ⟨w.heap.size, 2, none⟩ = some (.int .i64 0) := (hB5.cell (p := ⟨w.heap.size, 2, none⟩) hs2).trans c2; have d3 : w5.cell? ⟨w.heap.size, 3, none⟩ = some (.int .i64 0) := (hB5.cell (p := ⟨w.heap.size, 3, none⟩) hs2).trans c3; have df : ∀ o, w5.frozen? ⟨w.heap.size, o, none⟩ = false := fun o => (hB5.frozen (p := ⟨w.heap.size, o, none⟩) hs2).trans (cfz o); clear R5 c0 c1 c2 c3 cfz cc0 cc1 cc2 cc3 ccf hc4 hf4; have hs7 : w.heap.size < w5.heap.size := (by have := hB5.size; omega); have hws : ¬ R = w.heap.size := (by omega); have rd5 : RdInts w5 (some ⟨g, 0, none⟩) (waitUpto W q q.jobs.length ++ [fa]) := (Own.rd' (f := fun n : Int => [Value.int .i64 n]) (fun _ => rfl) (Own.of (n := n + 1) (by rw [List.length_append, Hn.out]; rfl) (by rw [List.flatMap_append]; rfl) ho5) rfl))
          go_wp2_with fail
          refine (first_n q.now (some ⟨g, 0, none⟩) cap (waitUpto W q q.jobs.length ++ [fa]) (n + 1) _ (by rw [List.length_append, Hn.out]; rfl) (by omega) rd5).mono ?_
          rintro e w6 ⟨rfl, rfl⟩
          go_wp2_with fail
          refine bodyPost_ret (v := .agg #[.int .i64 6, .int .i64 (-1), .int .i64 q.now, .int .i64 mm]) (res_c Try.results66 rfl (load_spell ?_ ?_ ?_ ?_)) rfl ⟨by rw [Hv.out], ?_⟩
          · go_simp
          · go_simp
          · go_simp
          · rw [Hm.out]; go_simp
          · exact (by repeat (first | (with_reducible exact HB6.out) | (with_reducible refine bdrewN ?_ _) | (with_reducible refine Below.drew ?_) | (with_reducible refine Below.setCell ?_ (by first | omega | (simp; done) | (simp; omega)) _) | (with_reducible refine Below.alloc ?_ (by first | omega | (simp; done) | (simp; omega)) _)))
        | false =>
          go_wp2_with fail
          refine (fault_n R W q aj af aq cj cf cq fa false _ (HR.out.at HB3.out) HK.out HF.out).mono ?_
          rintro e w4 ⟨rfl, hb4⟩
          have hO4 : OwnInts w2.heap.size w4 v (waitUpto W q q.jobs.length) := HOf.out.at hb4
          have hB5 : Below w2.heap.size w2 w4 := hB.trans (hb4.mono hsz)
          obtain ⟨hc4, hf4⟩ := bcell hb4
          have HB6 := hid (Below.trans HB2.out (hB5.mono HB2.out.size) : Below w.heap.size w w4)
          have R5 := HR.out.at HB6.out
          have r7 := R5.c7
          have hR5 : R < w4.heap.size := R5.lt
          have d0 : w4.cell? ⟨w.heap.size, 0, none⟩ = some (.int .i64 0) := (hB5.cell (p := ⟨w.heap.size, 0, none⟩) hs2).trans c0
          have d1 : w4.cell? ⟨w.heap.size, 1, none⟩ = some (.int .i64 0) := (hB5.cell (p := ⟨w.heap.size, 1, none⟩) hs2).trans c1
          have d2 : w4.cell? ⟨w.heap.size, 2, none⟩ = some (.int .i64 0) := (hB5.cell (p := ⟨w.heap.size, 2, none⟩) hs2).trans c2
          have d3 : w4.cell? ⟨w.heap.size, 3, none⟩ = some (.int .i64 0) := (hB5.cell (p := ⟨w.heap.size, 3, none⟩) hs2).trans c3
          have df : ∀ o, w4.frozen? ⟨w.heap.size, o, none⟩ = false := fun o => (hB5.frozen (p := ⟨w.heap.size, o, none⟩) hs2).trans (cfz o)
          clear R5 c0 c1 c2 c3 cfz cc0 cc1 cc2 cc3 ccf hc4 hf4
          have hs7 : w.heap.size < w4.heap.size := by have := hB5.size; omega
          have hws : ¬ R = w.heap.size := by omega
          obtain ⟨av2, cv2, rfl, rd5, _⟩ := Own.rd (f := fun n : Int => [Value.int .i64 n]) (m := 1) (fun _ => rfl) hO4
          have Hm' := hid (show mm = (firstOf q.now (waitUpto W q q.jobs.length)).1 by rw [Hm.out]; simp)
          rw [Hn.out]
          go_wp2_with fail
          refine (first_n q.now av2 cv2 (waitUpto W q q.jobs.length) n _ Hn.out (by omega) rd5).mono ?_
          rintro e w6 ⟨rfl, rfl⟩
          go_wp2_with fail
          refine bodyPost_ret (v := .agg #[.int .i64 6, .int .i64 (-1), .int .i64 q.now, .int .i64 mm]) (res_c Try.results66 rfl (load_spell ?_ ?_ ?_ ?_)) rfl ⟨by rw [Hv.out], ?_⟩
          · go_simp
          · go_simp
          · go_simp
          · rw [Hm'.out]; go_simp
          · exact (by repeat (first | (with_reducible exact HB6.out) | (with_reducible refine bdrewN ?_ _) | (with_reducible refine Below.drew ?_) | (with_reducible refine Below.setCell ?_ (by first | omega | (simp; done) | (simp; omega)) _) | (with_reducible refine Below.alloc ?_ (by first | omega | (simp; done) | (simp; omega)) _)))

end Go.Proofs.Ytbjgebbfachgfaa
/- Plain laws: what the program's steps compute is what the reference's do. -/
namespace Go.Proofs.Ytbjgebbfachgfaa

theorem snoc_ind {α : Type} {P : List α → Prop} (h0 : P []) (hs : ∀ l x, P l → P (l ++ [x])) : ∀ l, P l := by
  have h : ∀ r : List α, P r.reverse := by
    intro r
    induction r with
    | nil => exact h0
    | cons x r ih => rw [List.reverse_cons]; exact hs _ _ ih
  intro l
  have := h l.reverse
  rwa [List.reverse_reverse] at this
theorem firstOf_app (above : Int) (l : List Int) (x : Int) : firstOf above (l ++ [x]) = firstStep above (firstOf above l) x := by unfold firstOf; rw [List.foldl_append]; rfl
theorem firstOf_spec (above : Int) (l : List Int) : ((∀ x ∈ l, x ≤ above) ∧ firstOf above l = (0, false)) ∨ ∃ m ∈ l, above < m ∧ (∀ x ∈ l, above < x → m ≤ x) ∧ firstOf above l = (m, true) := by
  revert l
  refine snoc_ind ?_ ?_
  · exact .inl ⟨(fun x h => by cases h), rfl⟩
  · intro l x ih
    rw [firstOf_app]
    rcases ih with ⟨h1, h2⟩ | ⟨m, hm, h1, h2, h3⟩
    · by_cases hx : x ≤ above
      · left
        refine ⟨fun y hy => ?_, by rw [h2]; simp [firstStep, hx]⟩
        rcases List.mem_append.1 hy with h | h
        · exact h1 y h
        · simp at h; omega
      · right
        refine ⟨x, by simp, by omega, fun y hy hya => ?_, by rw [h2]; simp [firstStep, hx]⟩
        rcases List.mem_append.1 hy with h | h
        · have := h1 y h; omega
        · simp at h; omega
    · right
      by_cases hx : x ≤ above
      · refine ⟨m, by simp [hm], h1, fun y hy hya => ?_, by rw [h3]; simp [firstStep, hx]⟩
        rcases List.mem_append.1 hy with h | h
        · exact h2 y h hya
        · simp at h; omega
      · by_cases hxm : x < m
        · refine ⟨x, by simp, by omega, fun y hy hya => ?_, by rw [h3]; simp [firstStep, hx, hxm]⟩
          rcases List.mem_append.1 hy with h | h
          · have := h2 y h hya; omega
          · simp at h; omega
        · refine ⟨m, by simp [hm], h1, fun y hy hya => ?_, by rw [h3]; simp [firstStep, hx, hxm]⟩
          rcases List.mem_append.1 hy with h | h
          · exact h2 y h hya
          · simp at h; omega

theorem fault_le {W : Work} (hK : WOk W) : ∀ (d i : Nat) (_ : i + d + 1 < W.faults.length), W.faults[i].at0 + W.faults[i].rep ≤ W.faults[i + d + 1].at0
  | 0, i, h => by have := (hK.fb h).2.2 (by omega); simpa using this
  | d + 1, i, h => by
    have h1 := fault_le hK d i (by omega)
    have h2 := (hK.fb h).2.2 (by omega)
    have h3 := hK.fb (i := i + d + 1) (by omega)
    simp only [Nat.add_sub_cancel] at h2
    have e : i + (d + 1) = i + d + 1 := by omega
    simp only [e] at h2 ⊢
    omega
theorem fault_lt {W : Work} (hK : WOk W) {i j : Nat} (hij : i < j) (hj : j < W.faults.length) : W.faults[i].at0 + W.faults[i].rep ≤ W.faults[j].at0 := by
  obtain ⟨d, rfl⟩ : ∃ d, j = i + d + 1 := ⟨j - i - 1, by omega⟩
  exact fault_le hK d i hj

theorem nextFault_cases {W : Work} (hK : WOk W) (now : Int) : (W.nextFault now = -1 ∧ ∀ i (h : i < W.faults.length), W.faults[i].at0 ≤ now) ∨
    ∃ i, ∃ h : i < W.faults.length, W.nextFault now = W.faults[i].at0 ∧ now < W.faults[i].at0 ∧ 0 ≤ W.nextFault now ∧ ∀ j (h' : j < W.faults.length), now < W.faults[j].at0 → W.faults[i].at0 ≤ W.faults[j].at0 := by
  unfold Work.nextFault
  cases hf : W.faults.find? (fun f => decide (now < f.at0)) with
  | none =>
    left
    rw [List.find?_eq_none] at hf
    exact ⟨rfl, fun i h => by have := hf W.faults[i] (List.getElem_mem h); simpa using this⟩
  | some f =>
    right
    rw [List.find?_eq_some_iff_getElem] at hf
    obtain ⟨h1, i, hi, rfl, h2⟩ := hf
    refine ⟨i, hi, rfl, by simpa using h1, (hK.fb hi).1.1, fun j hj hn => ?_⟩
    rcases Nat.lt_trichotomy i j with h | h | h
    · have := fault_lt hK h hj; have := hK.fb hi; omega
    · subst h; omega
    · have := h2 j h; simp at this; omega

theorem fltL_eq {W : Work} (hK : WOk W) (now : Int) : fltL W now = if W.nextFault now < 0 then (0, false) else (W.nextFault now, true) := by
  unfold fltL
  rcases nextFault_cases hK now with ⟨h1, h2⟩ | ⟨i, hi, h1, h2, h3, h4⟩
  · rw [h1, if_pos (by decide)]
    rcases firstOf_spec now (W.faults.map Fault.at0) with ⟨_, h⟩ | ⟨m, hm, hnm, _, _⟩
    · exact h
    · obtain ⟨f, hf, rfl⟩ := List.mem_map.1 hm
      obtain ⟨i, hi, rfl⟩ := List.mem_iff_getElem.1 hf
      have := h2 i hi; omega
  · rw [if_neg (by omega)]
    rcases firstOf_spec now (W.faults.map Fault.at0) with ⟨h, _⟩ | ⟨m, hm, hnm, hmin, h⟩
    · have := h W.faults[i].at0 (List.mem_map.2 ⟨_, List.getElem_mem hi, rfl⟩); omega
    · rw [h, h1]
      obtain ⟨f, hf, rfl⟩ := List.mem_map.1 hm
      obtain ⟨j, hj, rfl⟩ := List.mem_iff_getElem.1 hf
      have a := h4 j hj hnm
      have b := hmin W.faults[i].at0 (List.mem_map.2 ⟨_, List.getElem_mem hi, rfl⟩) h2
      rw [show W.faults[j].at0 = W.faults[i].at0 by omega]

def repOf (now : Int) : Option Fault → Spell
  | some f => ⟨5, -1, now, f.at0 + f.rep⟩
  | none => Spell.zero
theorem rep_eq {W : Work} (hK : WOk W) (now : Int) : ∀ n, n ≤ W.faults.length → repUpto W now n = repOf now ((W.faults.take n).find? fun f => decide (f.at0 ≤ now) && decide (now < f.at0 + f.rep))
  | 0, _ => rfl
  | n + 1, h => by
    have hn : n < W.faults.length := by omega
    rw [rep_succ hn, List.take_succ_eq_append_getElem hn, List.find?_append, rep_eq hK now n (by omega)]
    have hin : inb now W.faults[n].at0 (W.faults[n].at0 + W.faults[n].rep - 1) = (decide (W.faults[n].at0 ≤ now) && decide (now < W.faults[n].at0 + W.faults[n].rep)) := by
      unfold inb; rw [Bool.eq_iff_iff]; simp; omega
    rw [hin]
    cases hf : (W.faults.take n).find? (fun f => decide (f.at0 ≤ now) && decide (now < f.at0 + f.rep)) with
    | none =>
      cases hb : (decide (W.faults[n].at0 ≤ now) && decide (now < W.faults[n].at0 + W.faults[n].rep)) with
      | true => simp [hb, repOf]
      | false => simp [hb, repOf]
    | some f =>
      rw [List.find?_eq_some_iff_getElem] at hf
      obtain ⟨h1, i, hi, rfl, _⟩ := hf
      have hi' : i < n := by simp at hi; omega
      have hlt := fault_lt hK hi' hn
      simp only [List.getElem_take] at h1 ⊢
      simp at h1
      have hb : (decide (W.faults[n].at0 ≤ now) && decide (now < W.faults[n].at0 + W.faults[n].rep)) = false := by simp; omega
      rw [hb]; simp
theorem repair_eq {W : Work} (hK : WOk W) (now : Int) : repUpto W now W.faults.length = repOf now (W.repairAt now) := by
  rw [rep_eq hK now _ (Nat.le_refl _), List.take_length]; rfl

/- who is taken -/
theorem cmp3_lt (a b : Int) : cmp3 a b < 0 ↔ a < b := by 
  unfold cmp3
  by_cases h1 : a < b
  · simp [h1]
  · by_cases h2 : b < a
    · simp [h1, h2]
    · simp [h1, h2]
theorem cmp3_ne (a b : Int) : (cmp3 a b != 0) = !(a == b) := by
  unfold cmp3
  by_cases h1 : a < b
  · have : ¬ a = b := by omega
    simp [h1, this]
  · by_cases h2 : b < a
    · have : ¬ a = b := by omega
      simp [h1, h2, this]
    · have : a = b := by omega
      simp [this]
theorem cmpL3_lt (a b c x y z : Int) : cmpL [a, b, c] [x, y, z] < 0 ↔ (a < x ∨ (a = x ∧ (b < y ∨ (b = y ∧ c < z)))) := by
  simp only [cmpL, cmp3_ne]
  by_cases h1 : a = x
  · subst h1
    by_cases h2 : b = y
    · subst h2
      by_cases h3 : c = z
      · subst h3; simp
      · simp [h3, cmp3_lt]
    · simp [h2, cmp3_lt]
  · simp [h1, cmp3_lt]
theorem cmpL3_pos {a b c x y z : Int} : cmpL [a, b, c] [x, y, z] = 0 ↔ (a = x ∧ b = y ∧ c = z) := by
  simp only [cmpL, cmp3_ne]
  have hne : ∀ u v : Int, ¬ u = v → cmp3 u v ≠ 0 := by intro u v h e; have := cmp3_ne u v; rw [e] at this; simp at this; exact h this
  by_cases h1 : a = x
  · subst h1
    by_cases h2 : b = y
    · subst h2
      by_cases h3 : c = z
      · subst h3; simp
      · simp [h3, hne c z h3]
    · simp [h2, hne b y h2]
  · simp [h1, hne a x h1]

theorem workCmp_lt {W : Work} {q : Qu} {a b : Nat} (hab : b < a) (ha : cand W q a = true) (hb : cand W q b = true) : decide (workCmp W q a b < 0) = before W q a b := by
  have hov : ∀ i, cand W q i = true → overdue W q i = decide (W.rules.patience ≤ q.now - (q.st i).since) := by
    intro i hi; unfold cand at hi; unfold overdue; rw [hi]; rfl
  unfold before
  rw [hov a ha, hov b hb]
  have hw : (workCmp W q a b < 0) ↔ cmpL (rankOf W q a) (rankOf W q b) < 0 := by
    unfold workCmp orOf
    generalize cmpL (rankOf W q a) (rankOf W q b) = c
    by_cases h : c = 0
    · subst h
      have : ((a : Int) - b != 0) = true := by simp; omega
      simp [this]; omega
    · simp [h]
  have : decide (workCmp W q a b < 0) = decide (cmpL (rankOf W q a) (rankOf W q b) < 0) := by simp only [hw]
  rw [this]
  unfold rankOf
  by_cases h1 : W.rules.patience ≤ q.now - (q.st a).since <;> by_cases h2 : W.rules.patience ≤ q.now - (q.st b).since
  · simp only [h1, h2, if_true, cmpL3_lt]; simp
  · simp only [h1, h2, if_true, if_false, cmpL3_lt]; simp
  · simp only [h1, h2, if_true, if_false, cmpL3_lt]; simp
  · simp only [h1, h2, if_false, cmpL3_lt]
    by_cases h3 : (W.job a).claim - (q.st a).progress = (W.job b).claim - (q.st b).progress
    · simp [h3]
    · simp [h3]

theorem ready_mem {W : Work} {q : Qu} {n : Nat} {x : Int} (h : x ∈ readyUpto W q n) : ∃ i : Nat, x = i ∧ i < n ∧ cand W q i = true := by
  unfold readyUpto at h
  obtain ⟨i, hi, rfl⟩ := List.mem_map.1 h
  rw [List.mem_filter] at hi
  exact ⟨i, rfl, by simpa using hi.1, hi.2⟩
theorem min_mem (f : Int → Int → Int) : ∀ (l : List Int) (m : Int), l.foldl (minStep f) m = m ∨ l.foldl (minStep f) m ∈ l
  | [], m => .inl rfl
  | x :: l, m => by
    rw [List.foldl_cons]
    rcases min_mem f l (minStep f m x) with h | h
    · rw [h]; unfold minStep; split
      · right; simp
      · left; rfl
    · right; exact List.mem_cons_of_mem _ h
theorem minOf_mem (f : Int → Int → Int) {l : List Int} (h : l ≠ []) : minOf f l ∈ l := by
  cases l with
  | nil => exact absurd rfl h
  | cons x l =>
    unfold minOf
    rcases min_mem f l x with h | h
    · simp only [List.drop_succ_cons, List.drop_zero, List.getD_cons_zero]; rw [h]; simp
    · simp only [List.drop_succ_cons, List.drop_zero, List.getD_cons_zero]; exact List.mem_cons_of_mem _ h
theorem taken_eq (W : Work) (q : Qu) : ∀ n, takenUpto W q n = if readyUpto W q n = [] then -1 else minOf (fun a b => workCmp W q a.toNat b.toNat) (readyUpto W q n)
  | 0 => rfl
  | n + 1 => by
    have ih := taken_eq W q n
    show (if cand W q n && (decide (takenUpto W q n < 0) || before W q n (takenUpto W q n).toNat) then (n : Int) else takenUpto W q n) = _
    cases hc : cand W q n with
    | false => rw [ready_no hc, ih]; simp
    | true =>
      rw [ready_yes hc]
      by_cases he : readyUpto W q n = []
      · rw [ih, he]; simp [minOf]
      · rw [if_neg he] at ih
        obtain ⟨b, hb, hbn, hbc⟩ := ready_mem (minOf_mem (fun a b => workCmp W q a.toNat b.toNat) he)
        have hne : ¬ (takenUpto W q n < 0) := by rw [ih, hb]; omega
        have hmin : minOf (fun a b => workCmp W q a.toNat b.toNat) (readyUpto W q n ++ [(n : Int)]) = minStep (fun a b => workCmp W q a.toNat b.toNat) (minOf (fun a b => workCmp W q a.toNat b.toNat) (readyUpto W q n)) n := by
          have hl : 0 < (readyUpto W q n).length := List.length_pos_iff.2 he
          have := min_snoc (f := fun a b => workCmp W q a.toNat b.toNat) (l := readyUpto W q n ++ [(n : Int)]) (k := (readyUpto W q n).length) hl (by simp)
          rw [List.take_of_length_le (by simp)] at this
          rw [this]; simp
        rw [hmin, ih, hb]
        unfold minStep
        have hlt := workCmp_lt (W := W) (q := q) hbn hc hbc
        rw [if_neg (show ¬ (readyUpto W q n ++ [(n : Int)] = []) by simp)]
        simp only [Int.toNat_natCast]
        have hnn : ¬ ((b : Int) < 0) := by omega
        by_cases hw : workCmp W q n b < 0
        · rw [decide_eq_true hw] at hlt; simp [← hlt, hw]
        · rw [decide_eq_false hw] at hlt; simp [← hlt, hw, hnn]

/- the idle machine -/
theorem mem_wait {W : Work} {q : Qu} {n : Nat} {x : Int} : x ∈ waitUpto W q n ↔ ∃ i, i < n ∧ (q.st i).why = 0 ∧ (W.job i).arrive = x := by
  unfold waitUpto
  simp only [List.mem_map, List.mem_filter, List.mem_range, beq_iff_eq]
  constructor
  · rintro ⟨i, ⟨h1, h2⟩, h3⟩; exact ⟨i, h1, h2, h3⟩
  · rintro ⟨i, h1, h2, h3⟩; exact ⟨i, ⟨h1, h2⟩, h3⟩
theorem idleUpto_spec (W : Work) (q : Qu) (hpos : ∀ i, (q.st i).why = 0 → 0 ≤ (W.job i).arrive) : ∀ n,
    (W.nextFault q.now < 0 ∧ (∀ i, i < n → ¬ (q.st i).why = 0) ∧ idleUpto W q n < 0) ∨
    (0 ≤ idleUpto W q n ∧ ((0 ≤ W.nextFault q.now ∧ idleUpto W q n = W.nextFault q.now) ∨ ∃ i, i < n ∧ (q.st i).why = 0 ∧ (W.job i).arrive = idleUpto W q n) ∧
      (0 ≤ W.nextFault q.now → idleUpto W q n ≤ W.nextFault q.now) ∧ ∀ i, i < n → (q.st i).why = 0 → idleUpto W q n ≤ (W.job i).arrive)
  | 0 => by
    show (_ ∧ _ ∧ W.nextFault q.now < 0) ∨ (0 ≤ W.nextFault q.now ∧ _)
    by_cases h : W.nextFault q.now < 0
    · exact .inl ⟨h, fun i hi => by omega, h⟩
    · exact .inr ⟨by omega, .inl ⟨by omega, rfl⟩, fun _ => Int.le_refl _, fun i hi => by omega⟩
  | n + 1 => by
    have ih := idleUpto_spec W q hpos n
    have hs : idleUpto W q (n + 1) = if (q.st n).why == 0 && (decide (idleUpto W q n < 0) || decide ((W.job n).arrive < idleUpto W q n)) then (W.job n).arrive else idleUpto W q n := rfl
    by_cases hw : (q.st n).why = 0
    · have hp := hpos n hw
      rcases ih with ⟨h1, h2, h3⟩ | ⟨h1, h2, h3, h4⟩
      · have e : idleUpto W q (n + 1) = (W.job n).arrive := by rw [hs]; simp [hw, h3]
        rw [e]
        refine .inr ⟨hp, .inr ⟨n, by omega, hw, rfl⟩, fun h => by omega, fun i hi hwi => ?_⟩
        rcases Nat.lt_or_ge i n with h | h
        · exact absurd hwi (h2 i h)
        · obtain rfl : i = n := by omega
          exact Int.le_refl _
      · by_cases hlt : (W.job n).arrive < idleUpto W q n
        · have e : idleUpto W q (n + 1) = (W.job n).arrive := by rw [hs]; simp [hw, hlt]
          rw [e]
          refine .inr ⟨hp, .inr ⟨n, by omega, hw, rfl⟩, fun h => by have := h3 h; omega, fun i hi hwi => ?_⟩
          rcases Nat.lt_or_ge i n with h | h
          · have := h4 i h hwi; omega
          · obtain rfl : i = n := by omega
            exact Int.le_refl _
        · have e : idleUpto W q (n + 1) = idleUpto W q n := by
            rw [hs]
            have : ¬ idleUpto W q n < 0 := by omega
            simp [hw, hlt, this]
          rw [e]
          refine .inr ⟨h1, ?_, h3, fun i hi hwi => ?_⟩
          · rcases h2 with h | ⟨i, hi, h⟩
            · exact .inl h
            · exact .inr ⟨i, by omega, h⟩
          · rcases Nat.lt_or_ge i n with h | h
            · exact h4 i h hwi
            · obtain rfl : i = n := by omega
              omega
    · have e : idleUpto W q (n + 1) = idleUpto W q n := by rw [hs]; simp [hw]
      rw [e]
      rcases ih with ⟨h1, h2, h3⟩ | ⟨h1, h2, h3, h4⟩
      · refine .inl ⟨h1, fun i hi => ?_, h3⟩
        rcases Nat.lt_or_ge i n with h | h
        · exact h2 i h
        · obtain rfl : i = n := by omega
          exact hw
      · refine .inr ⟨h1, ?_, h3, fun i hi hwi => ?_⟩
        · rcases h2 with h | ⟨i, hi, h⟩
          · exact .inl h
          · exact .inr ⟨i, by omega, h⟩
        · rcases Nat.lt_or_ge i n with h | h
          · exact h4 i h hwi
          · obtain rfl : i = n := by omega
            exact absurd hwi hw

theorem idle_eq {W : Work} {q : Qu} (hK : WOk W) (hQ : QOk W q) (hr : readyUpto W q q.jobs.length = []) (hw : ∃ i, i < q.jobs.length ∧ (q.st i).why = 0) : idleMin W q = idleUpto W q q.jobs.length := by
  have hj : ∀ i, i < q.jobs.length → 0 ≤ (W.job i).arrive := by
    intro i hi
    have hi' : i < W.jobs.length := by have := hQ.len; omega
    rw [Work.job_eq hi']; exact (hK.jb hi').1.1
  have hlate : ∀ i, i < q.jobs.length → (q.st i).why = 0 → q.now < (W.job i).arrive := by
    intro i hi hwi
    apply Classical.byContradiction
    intro hn
    have hc : cand W q i = true := by unfold cand; simp [hwi]; omega
    have : (i : Int) ∈ readyUpto W q q.jobs.length := by
      unfold readyUpto
      exact List.mem_map.2 ⟨i, List.mem_filter.2 ⟨by simpa using hi, hc⟩, rfl⟩
    rw [hr] at this; cases this
  have hpos : ∀ i, (q.st i).why = 0 → 0 ≤ (W.job i).arrive := by
    intro i _
    rcases Nat.lt_or_ge i q.jobs.length with h | h
    · exact hj i h
    · have : ¬ i < W.jobs.length := by have := hQ.len; omega
      unfold Work.job; rw [List.getD_eq_getElem?_getD, List.getElem?_eq_none (by omega)]; decide
  obtain ⟨i0, hi0, hwi0⟩ := hw
  have hsp := idleUpto_spec W q hpos q.jobs.length
  rcases hsp with ⟨_, h2, _⟩ | ⟨h1, h2, h3, h4⟩
  · exact absurd hwi0 (h2 i0 hi0)
  · unfold idleMin
    rw [fltL_eq hK]
    have hmem : ∀ x, x ∈ (waitUpto W q q.jobs.length ++ if (if W.nextFault q.now < 0 then ((0 : Int), false) else (W.nextFault q.now, true)).2 = true then [(if W.nextFault q.now < 0 then ((0 : Int), false) else (W.nextFault q.now, true)).1] else []) ↔ (x ∈ waitUpto W q q.jobs.length ∨ (0 ≤ W.nextFault q.now ∧ x = W.nextFault q.now)) := by
      intro x
      rw [List.mem_append]
      by_cases h : W.nextFault q.now < 0
      · have h' : ¬ 0 ≤ W.nextFault q.now := by omega
        simp [h, h']
      · have h' : 0 ≤ W.nextFault q.now := by omega
        simp [h, h']
    have hnf : 0 ≤ W.nextFault q.now → q.now < W.nextFault q.now := by
      intro h
      rcases nextFault_cases hK q.now with ⟨e, _⟩ | ⟨i, hi, e, h5, _⟩
      · omega
      · omega
    rcases firstOf_spec q.now (waitUpto W q q.jobs.length ++ if (if W.nextFault q.now < 0 then ((0 : Int), false) else (W.nextFault q.now, true)).2 = true then [(if W.nextFault q.now < 0 then ((0 : Int), false) else (W.nextFault q.now, true)).1] else []) with ⟨h, _⟩ | ⟨m, hm, hnm, hmin, h⟩
    · have := h (W.job i0).arrive ((hmem _).2 (.inl (mem_wait.2 ⟨i0, hi0, hwi0, rfl⟩)))
      have := hlate i0 hi0 hwi0; omega
    · rw [h]
      show m = _
      have hle : m ≤ idleUpto W q q.jobs.length := by
        rcases h2 with ⟨h5, h6⟩ | ⟨i, hi, hwi, hai⟩
        · rw [h6]; exact hmin _ ((hmem _).2 (.inr ⟨h5, rfl⟩)) (hnf h5)
        · rw [← hai]; exact hmin _ ((hmem _).2 (.inl (mem_wait.2 ⟨i, hi, hwi, rfl⟩))) (hlate i hi hwi)
      have hge : idleUpto W q q.jobs.length ≤ m := by
        rcases (hmem m).1 hm with h5 | ⟨h5, rfl⟩
        · obtain ⟨i, hi, hwi, rfl⟩ := mem_wait.1 h5; exact h4 i hi hwi
        · exact h3 h5
      omega

end Go.Proofs.Ytbjgebbfachgfaa
