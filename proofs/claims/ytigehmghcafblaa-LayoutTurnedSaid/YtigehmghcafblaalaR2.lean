/- Rows of layout: tasks, layouts opened. -/
import Derived.Test.YtigehmghcafblaalaW36
import Derived.Test.YtigehmghcafblaalaG6
import Derived.Deep.Slices
import Derived.Deep.Fields
import Derived.ProofKit
import Derived.OpenShut
import Derived.Carry
import Derived.ChangeSame
import Derived.ReadAgain
set_option linter.all false
namespace Go.Proofs.Ytigehmghcafblaa

section
set_option linter.all false
set_option pp.maxSteps 100000
set_option maxRecDepth 100000
set_option maxHeartbeats 4000000
open Go.RowKit

theorem Ints_v (l m : List Int) (a a2 : Option Addr) (c c2 : Nat) (w : World) (hl : Rd icell 1 w a l) (hm : Rd icell 1 w a2 m) (hn : l.length ≤ 9223372036854775807) (hn2 : m.length ≤ 9223372036854775807) :
    Calls Try.prog 15 #[.slice a l.length c, .slice a2 m.length c2] w (fun e w' => e = .returned (.bool (decide (l = m))) ∧ Below w.heap.size w w') := by
  refine go_in Try.func15 rfl Try.ntmps15 [] [] (Mem.start _) ?_
  refine go ?_
  refine go_if (fun h => ?_) (fun h => ?_)
  · refine go ?_
    refine ev1 ?_
    have : ¬ l = m := fun e => h (by rw [e])
    simp [this]
  have hlm : l.length = m.length := by have h9 : (l.length : Int) = m.length := (by simpa using h); omega
  have HLM := hid hlm
  have hle : l.length ≤ m.length := by omega
  clear h hlm
  refine go ?_
  refine go_loop (X := Nat) (fun i => i ≤ l.length ∧ ∀ j, j < i → lx l j = lx m j) (fun i => l.length - i) (fun i => [(5, .int .i64 i)]) (fun _ => []) 0 [0, 1] ⟨Nat.zero_le _, fun j hj => by omega⟩ (by simp [AgreeL, At]) sb (fun i hi => ?_)
  obtain ⟨hi1, hi2⟩ := hi
  refine go ?_
  refine go_if (fun h => ?_) (fun h => ?_)
  · have hil : i < l.length := by omega
    have him : i < m.length := by omega
    refine go ?_
    refine go_if (fun h2 => ?_) (fun h2 => ?_)
    · refine go ?_
      refine ev1 ?_
      have : ¬ l = m := fun e => h2 (by rw [e])
      simp [this]
    · have h3 : lx l i = lx m i := by simpa using h2
      have h4 := hid h3
      clear h2 h3
      refine go ?_
      exact go_again (i + 1) ⟨hil, fun j hj => by
        rcases Nat.lt_or_ge j i with h5 | h5
        · exact hi2 j h5
        · obtain rfl : j = i := by omega
          exact h4.out⟩ (by omega) (by simp [AgreeL, At]) sb
  · refine go ?_
    refine ev1 ?_
    have : l = m := lx_ext HLM.out fun j hj => hi2 j (by omega)
    simp [this]
theorem lxP_ext {l m : List LaP} (hl : l.length = m.length) (h : ∀ i, i < l.length → lx l i = lx m i) : l = m := by
  apply List.ext_getElem hl
  intro i h1 h2
  have := h i h1
  rwa [lx_eq h1, lx_eq h2] at this
theorem Ex.neP {w0 : World} {Bs : List Nat} {n : Nat} {L : List (Nat × Value)} {H : List En} {d : Nat} {ty : TypeId} {pos : String} {af : Array Edge} {gd : Option (Nat × Bool)} {x y : Operand} (p q : LaP)
    (hx : ∀ g, evF n (tab L g) x = .agg #[.int .i64 p.path, .int .i64 p.fr, .int .i64 p.tt] := by intro g; simp only [evF_tmp, tab_cons, Nat.reduceLT, Nat.reduceEqDiff, ↓reduceIte]; (try rfl)) (hy : ∀ g, evF n (tab L g) y = .agg #[.int .i64 q.path, .int .i64 q.fr, .int .i64 q.tt] := by intro g; simp only [evF_tmp, tab_cons, Nat.reduceLT, Nat.reduceEqDiff, ↓reduceIte]; (try rfl)) :
    Ex w0 Bs Try.prog n ⟨some d, .binOp .neq 38 x y 38, ty, pos, af, gd⟩ L H (.bool (decide (¬ p = q))) := fun g w _ => by
  have key : ∀ R : Result Next → Prop, R (.ok (.value (.bool (decide (¬ p = q)))) w) → R ((execOp (evF n (tab L g)) ⟨some d, .binOp .neq 38 x y 38, ty, pos, af, gd⟩).run Try.prog w) := by
    intro R hR
    have e : decide (¬ p = q) = decide (¬ (p.path = q.path ∧ p.fr = q.fr ∧ p.tt = q.tt)) := by
      rw [decide_eq_decide]; obtain ⟨a, b, c⟩ := p; obtain ⟨a', b', c'⟩ := q; simp
    rw [e] at hR
    have h1 := hx g
    have h2 := hy g
    go_simp
    by_cases q1 : p.path = q.path <;> by_cases q2 : p.fr = q.fr <;> by_cases q3 : p.tt = q.tt <;> simp [q1, q2, q3] at hR ⊢ <;> exact hR
  exact key (fun r => r = _) rfl
theorem Proofs_v (l m : List LaP) (a a2 : Option Addr) (c c2 : Nat) (w : World) (hl : Rd LaP.cs 3 w a l) (hm : Rd LaP.cs 3 w a2 m) (hn : l.length ≤ 9223372036854775807) (hn2 : m.length ≤ 9223372036854775807) :
    Calls Try.prog 14 #[.slice a l.length c, .slice a2 m.length c2] w (fun e w' => e = .returned (.bool (decide (l = m))) ∧ Below w.heap.size w w') := by
  refine go_in Try.func14 rfl Try.ntmps14 [] [] (Mem.start _) ?_
  refine go ?_
  refine go_if (fun h => ?_) (fun h => ?_)
  · refine go ?_
    refine ev1 ?_
    have : ¬ l = m := fun e => h (by rw [e])
    simp [this]
  have hlm : l.length = m.length := by have h9 : (l.length : Int) = m.length := (by simpa using h); omega
  have HLM := hid hlm
  have hle : l.length ≤ m.length := by omega
  clear h hlm
  refine go ?_
  refine go_loop (X := Nat) (fun i => i ≤ l.length ∧ ∀ j, j < i → lx l j = lx m j) (fun i => l.length - i) (fun i => [(5, .int .i64 i)]) (fun _ => []) 0 [0, 1] ⟨Nat.zero_le _, fun j hj => by omega⟩ (by simp [AgreeL, At]) sb (fun i hi => ?_)
  obtain ⟨hi1, hi2⟩ := hi
  refine go ?_
  refine go_if (fun h => ?_) (fun h => ?_)
  · have hil : i < l.length := by omega
    have him : i < m.length := by omega
    refine go ?_
    refine GoL.q ⟨_, Ex.neP (lx l i) (lx m i), ?_⟩
    refine go ?_
    refine go_if (fun h2 => ?_) (fun h2 => ?_)
    · refine go ?_
      refine ev1 ?_
      have : ¬ l = m := fun e => h2 (by rw [e])
      simp [this]
    · have h3 : lx l i = lx m i := by simpa using h2
      have h4 := hid h3
      clear h2 h3
      refine go ?_
      exact go_again (i + 1) ⟨hil, fun j hj => by
        rcases Nat.lt_or_ge j i with h5 | h5
        · exact hi2 j h5
        · obtain rfl : j = i := by omega
          exact h4.out⟩ (by omega) (by simp [AgreeL, At]) sb
  · refine go ?_
    refine ev1 ?_
    have : l = m := lxP_ext HLM.out fun j hj => hi2 j (by omega)
    simp [this]
/-- where the examples' task lies -/
abbrev tskV (q : Nat × Nat × Nat) : Value := .agg #[.slice (some ⟨q.1, 0, none⟩) 2 2, .int .i64 2, .int .i64 1, .slice (some ⟨q.2.1, 0, none⟩) 1 1]
abbrev tskE (op : Int) (q : Nat × Nat × Nat) : List En := [.cells q.1 [.int .i64 op, .int .i64 0, .int .i64 1, .int .i64 1, .int .i64 5, .int .i64 1, .int .i64 0, .int .i64 1], .cells q.2.1 [.slice (some ⟨q.2.2, 0, none⟩) 3 3, .int .i64 10], .cells q.2.2 [.int .i64 0, .int .i64 1, .int .i64 0]]
theorem Task_v (w : World) : Calls Try.prog 9 #[] w (Ret tskV (tskE 2) w) := by
  refine go_in Try.func9 rfl Try.ntmps9 [] [] (Mem.start _) ?_
  refine go ?_
  refine GoL.a (fun b0 => ?_)
  refine go ?_
  refine GoL.as (fun b3 => ?_)
  refine go ?_
  refine GoL.as (fun b4 => ?_)
  refine go ?_
  refine GoL.as (fun b6 => ?_)
  refine go ?_
  refine end_c ?_
  exact fun w' hw => ⟨(b3, b6, b4), rfl, hw.done sb⟩
theorem Product_v (w : World) : Calls Try.prog 12 #[] w (Ret tskV (tskE 4) w) := by
  refine go_in Try.func12 rfl Try.ntmps12 [] [] (Mem.start _) ?_
  refine go ?_
  refine GoL.a (fun b0 => ?_)
  refine go ?_
  refine GoL.c (fun w' hw => Task_v w') (fun q => ?_)
  obtain ⟨q1, q2, q3⟩ := q
  dsimp only [tskV, tskE]
  refine go ?_
  refine GoL.a (fun b1 => ?_)
  refine go ?_
  refine end_c ?_
  exact fun w' hw => ⟨(q1, q2, q3), rfl, hw.done sb⟩
theorem tsk_at {op : Int} {q : Nat × Nat × Nat} {w w0 : World} {H : List En} (h : Mem w0 [] H w) (hs : Sub (tskE op q) H) : (tskL op q.1 q.2.1 q.2.2).At w := by
  have h1 : Mem w0 [] (tskE op q) w := h.sub hs
  refine ⟨Cells.rd (f := LOrd.cs) (m := 4) (fun _ => rfl) (h1.cells pk), Cells.rd (f := PthR.cs) (m := 2) (fun _ => rfl) (h1.cells pk), fun x hx => ?_⟩
  simp only [tskL, List.mem_singleton] at hx
  subst hx
  exact Cells.rd (f := icell) (m := 1) (fun _ => rfl) (h1.cells pk)
theorem tsk_len {op : Int} {q : Nat × Nat × Nat} : (tskL op q.1 q.2.1 q.2.2).Len := ⟨by simp [tskL], by simp [tskL], fun x hx => by simp only [tskL, List.mem_singleton] at hx; subst hx; simp⟩
end

section
set_option linter.all false
set_option pp.maxSteps 100000
set_option maxRecDepth 100000
set_option maxHeartbeats 4000000
open Go.RowKit

theorem xCost (q : Nat × Nat × Nat) (lay : List Int) (al : Option Addr) (cl : Nat) (n e : Int) (hv : costR (tskL 2 q.1 q.2.1 q.2.2) lay = (n, e)) (w w0 : World) (H : List En) (h : Mem w0 [] H w) (hs : Sub (tskE 2 q) H) (hl : Rd icell 1 w al lay) (hll : lay.length ≤ 9223372036854775807 ∧ lay.length ≤ cl) :
    Calls Try.prog 8 #[tskV q, .slice al lay.length cl] w (fun e' w' => e' = .returned (.tuple #[.int .i64 n, .int .i64 e]) ∧ Below w.heap.size w w') := by
  have := Cost_v (tskL 2 q.1 q.2.1 q.2.2) lay al cl w tsk_len (tsk_at h hs) hl hll
  rw [hv] at this
  exact this
theorem xBound (op : Int) (q : Nat × Nat × Nat) (l : List LaP) (n : Int) (h0 : chkL (tskL op q.1 q.2.1 q.2.2) = (0, 0, 0)) (h1 : boundL (tskL op q.1 q.2.1 q.2.2) = l) (h2 : boundN (tskL op q.1 q.2.1 q.2.2) = n) (w w0 : World) (H : List En) (h : Mem w0 [] H w) (hs : Sub (tskE op q) H) :
    Calls Try.prog 10 #[tskV q] w (Ret (fun r : Option Addr × Nat => .tuple #[.slice r.1 l.length r.2, .int .i64 n, .int .i64 0]) (fun r => [.rd LaP.cs 3 r.1 l]) w) := by
  have := Bound_ok (tskL op q.1 q.2.1 q.2.2) 0 0 w tsk_len (tsk_at h hs) h0
  rw [h1, h2] at this
  exact this
theorem xGood (q : Nat × Nat × Nat) (w w0 : World) (H : List En) (h : Mem w0 [] H w) (hs : Sub (tskE 2 q) H) :
    Calls Try.prog 17 #[tskV q] w (Ret (fun g : Nat => .tuple #[.slice (some ⟨g, 0, none⟩) 4 4, .int .i64 0]) (fun g => [.cells g (ic [0, 3, 1, 2])]) w) := by
  have := Good_ok (tskL 2 q.1 q.2.1 q.2.2) 0 0 w tsk_len (tsk_at h hs) (ex_chk _ _ _)
  rw [ex_good] at this
  exact this
theorem xBest (op : Int) (q : Nat × Nat × Nat) (h0 : bestEr (tskL op q.1 q.2.1 q.2.2) = 0) (h1 : bestL (tskL op q.1 q.2.1 q.2.2) = [0, 1, 2, 3]) (w w0 : World) (H : List En) (h : Mem w0 [] H w) (hs : Sub (tskE op q) H) :
    Calls Try.prog 11 #[tskV q] w (Ret (fun r : Option Addr × Nat => .tuple #[.slice r.1 ([0, 1, 2, 3] : List Int).length r.2, .int .i64 0]) (fun r => [.rd icell 1 r.1 [0, 1, 2, 3]]) w) := by
  have := Best_ok (tskL op q.1 q.2.1 q.2.2) w tsk_len (tsk_at h hs) h0
  rw [h1] at this
  exact this
theorem xAcc (q : Nat × Nat × Nat) (l : List LaP) (al : Option Addr) (cl : Nat) (n e : Int) (hv : accR (tskL 2 q.1 q.2.1 q.2.2) l = (n, e)) (w w0 : World) (H : List En) (h : Mem w0 [] H w) (hs : Sub (tskE 2 q) H) (hl : Rd LaP.cs 3 w al l) (hll : l.length ≤ 9223372036854775807) :
    Calls Try.prog 13 #[tskV q, .slice al l.length cl] w (fun e' w' => e' = .returned (.tuple #[.int .i64 n, .int .i64 e]) ∧ Below w.heap.size w w') := by
  have := Accept_v (tskL 2 q.1 q.2.1 q.2.2) l al cl w tsk_len (tsk_at h hs) hl hll
  rw [hv] at this
  exact this
theorem xLay (q : Nat × Nat × Nat) (al aw : Option Addr) (cl cw : Nat) (w w0 : World) (H : List En) (h : Mem w0 [] H w) (hs : Sub (tskE 2 q) H) (hl : Rd icell 1 w al [0, 3, 1, 2]) (hc : 4 ≤ cl) (hw : Rd icell 1 w aw [5, 7]) :
    Calls Try.prog 35 #[tskV q, .slice al ([0, 3, 1, 2] : List Int).length cl, .slice aw ([5, 7] : List Int).length cw] w (Ret (fun g : Nat => .tuple #[.slice (some ⟨g, 0, none⟩) 128 128, .int .i64 0]) (fun g => [.cells g (ic (layW (tskL 2 q.1 q.2.1 q.2.2) [0, 3, 1, 2] [5, 7]))]) w) :=
  Lay_ok (tskL 2 q.1 q.2.1 q.2.2) [0, 3, 1, 2] [5, 7] al aw cl cw w tsk_len (tsk_at h hs) hl ⟨by decide, hc⟩ hw (ex_layF _ _ _)
theorem xInts (l : List Int) (a a2 : Option Addr) (c c2 : Nat) (w : World) (hl : Rd icell 1 w a l) (hm : Rd icell 1 w a2 l) (hn : l.length ≤ 9223372036854775807) :
    Calls Try.prog 15 #[.slice a l.length c, .slice a2 l.length c2] w (fun e w' => e = .returned (.bool true) ∧ Below w.heap.size w w') := by
  have := Ints_v l l a a2 c c2 w hl hm hn hn
  rwa [decide_eq_true rfl] at this
theorem xProofs (l : List LaP) (a a2 : Option Addr) (c c2 : Nat) (w : World) (hl : Rd LaP.cs 3 w a l) (hm : Rd LaP.cs 3 w a2 l) (hn : l.length ≤ 9223372036854775807) :
    Calls Try.prog 14 #[.slice a l.length c, .slice a2 l.length c2] w (fun e w' => e = .returned (.bool true) ∧ Below w.heap.size w w') := by
  have := Proofs_v l l a a2 c c2 w hl hm hn hn
  rwa [decide_eq_true rfl] at this
theorem awake_v (w : World) : Calls Try.prog 16 #[] w (fun e w' => e = .returned (.bool true) ∧ Below w.heap.size w w') := by
  refine go_in Try.func16 rfl Try.ntmps16 [] [] (Mem.start _) ?_
  refine go ?_
  refine GoL.c (fun w' hw => Task_v w') (fun q1 => ?_)
  refine go ?_
  refine GoL.sl (Ef.lit (f := icell) (m := 1) (e := 3) [0, 3, 2, 1] (fun _ => rfl) rfl) (fun a1 c1 => ?_)
  refine go ?_
  refine GoL.cv (fun w' hw => xCost q1 [0, 3, 2, 1] a1 c1 480 0 (ex_cost _ _ _) w' w _ hw sb (hw.ownRd pk) ⟨by decide, (hw.own (l := [0, 3, 2, 1]) pk).cap⟩) ?_
  refine go ?_
  refine GoL.c (fun w' hw => Product_v w') (fun q2 => ?_)
  refine go ?_
  refine GoL.c (fun w' hw => xBound 4 q2 [⟨0, 0, 6⟩, ⟨0, 2, 5⟩, ⟨0, 2, 3⟩, ⟨0, 3, 5⟩] 480 (ex_chk4 _ _ _) (ex_bound4 _ _ _) (ex_boundN4 _ _ _) w' w _ hw sb) (fun r3 => ?_)
  refine GoL.mem (H' := [.rd LaP.cs 3 r3.1 [⟨0, 0, 6⟩, ⟨0, 2, 5⟩, ⟨0, 2, 3⟩, ⟨0, 3, 5⟩]]) (fun w hw => hw.sub sb) ?_
  refine go ?_
  refine GoL.c (fun w' hw => Task_v w') (fun q4 => ?_)
  refine go ?_
  refine GoL.c (fun w' hw => xGood q4 w' w _ hw sb) (fun g5 => ?_)
  refine GoL.mem (H' := [.cells g5 (ic [0, 3, 1, 2]), .rd LaP.cs 3 r3.1 [⟨0, 0, 6⟩, ⟨0, 2, 5⟩, ⟨0, 2, 3⟩, ⟨0, 3, 5⟩]]) (fun w hw => hw.sub sb) ?_
  refine go ?_
  refine GoL.c (fun w' hw => Task_v w') (fun q6 => ?_)
  refine go ?_
  refine GoL.c (fun w' hw => xBest 2 q6 (ex_bestE _ _ _) (ex_best _ _ _) w' w _ hw sb) (fun r7 => ?_)
  refine GoL.mem (H' := [.rd icell 1 r7.1 [0, 1, 2, 3], .cells g5 (ic [0, 3, 1, 2]), .rd LaP.cs 3 r3.1 [⟨0, 0, 6⟩, ⟨0, 2, 5⟩, ⟨0, 2, 3⟩, ⟨0, 3, 5⟩]]) (fun w hw => hw.sub sb) ?_
  refine go ?_
  refine GoL.c (fun w' hw => Task_v w') (fun q8 => ?_)
  refine go ?_
  refine GoL.sl (Ef.lit (f := LaP.cs) (m := 3) (e := 38) [⟨0, 2, 4⟩] (fun _ => rfl) rfl) (fun a9 c9 => ?_)
  refine go ?_
  refine GoL.cv (fun w' hw => xAcc q8 [⟨0, 2, 4⟩] a9 c9 190 0 (ex_acc1 _ _ _) w' w _ hw sb (hw.ownRd pk) (by decide)) ?_
  refine GoL.mem (H' := [.rd icell 1 r7.1 [0, 1, 2, 3], .cells g5 (ic [0, 3, 1, 2]), .rd LaP.cs 3 r3.1 [⟨0, 0, 6⟩, ⟨0, 2, 5⟩, ⟨0, 2, 3⟩, ⟨0, 3, 5⟩]]) (fun w hw => hw.sub sb) ?_
  refine go ?_
  refine GoL.c (fun w' hw => Task_v w') (fun q10 => ?_)
  refine go ?_
  refine GoL.sl (Ef.lit (f := icell) (m := 1) (e := 3) [0, 3, 1, 2] (fun _ => rfl) rfl) (fun a11 c11 => ?_)
  refine go ?_
  refine GoL.sl (Ef.lit (f := icell) (m := 1) (e := 3) [5, 7] (fun _ => rfl) rfl) (fun a12 c12 => ?_)
  refine go ?_
  refine GoL.c (fun w' hw => xLay q10 a11 a12 c11 c12 w' w _ hw sb (hw.ownRd pk) (hw.own (f := icell) (m := 1) (T := 3) (l := ([0, 3, 1, 2] : List Int)) pk).cap (hw.ownRd pk)) (fun g13 => ?_)
  refine GoL.mem (H' := [.cells g13 (ic (layW (tskL 2 q10.1 q10.2.1 q10.2.2) [0, 3, 1, 2] [5, 7])), .rd icell 1 r7.1 [0, 1, 2, 3], .cells g5 (ic [0, 3, 1, 2]), .rd LaP.cs 3 r3.1 [⟨0, 0, 6⟩, ⟨0, 2, 5⟩, ⟨0, 2, 3⟩, ⟨0, 3, 5⟩]]) (fun w hw => hw.sub sb) ?_
  refine go ?_
  refine GoL.c (fun w' hw => Task_v w') (fun q14 => ?_)
  refine go ?_
  refine GoL.cv (fun w' hw => xCost q14 [] none 0 0 3 (ex_cost0 _ _ _) w' w _ hw sb (.inl rfl) ⟨by decide, Nat.le_refl _⟩) ?_
  refine GoL.mem (H' := [.cells g13 (ic (layW (tskL 2 q10.1 q10.2.1 q10.2.2) [0, 3, 1, 2] [5, 7])), .rd icell 1 r7.1 [0, 1, 2, 3], .cells g5 (ic [0, 3, 1, 2]), .rd LaP.cs 3 r3.1 [⟨0, 0, 6⟩, ⟨0, 2, 5⟩, ⟨0, 2, 3⟩, ⟨0, 3, 5⟩]]) (fun w hw => hw.sub sb) ?_
  refine go ?_
  dsimp only [List.append]
  refine go ?_
  refine GoL.sl (Ef.lit (f := LaP.cs) (m := 3) (e := 38) [⟨0, 0, 6⟩, ⟨0, 2, 5⟩, ⟨0, 2, 3⟩, ⟨0, 3, 5⟩] (fun _ => rfl) rfl) (fun a15 c15 => ?_)
  refine go ?_
  refine GoL.cv (fun w' hw => xProofs [⟨0, 0, 6⟩, ⟨0, 2, 5⟩, ⟨0, 2, 3⟩, ⟨0, 3, 5⟩] r3.1 a15 r3.2 c15 w' (hw.rd pk) (hw.ownRd pk) (by decide)) ?_
  refine go ?_
  refine GoL.sl (Ef.lit (f := icell) (m := 1) (e := 3) [0, 3, 1, 2] (fun _ => rfl) rfl) (fun a16 c16 => ?_)
  refine go ?_
  refine GoL.cv (fun w' hw => xInts [0, 3, 1, 2] (some ⟨g5, 0, none⟩) a16 4 c16 w' (rdC (hw.cells pk)) (hw.ownRd pk) (by decide)) ?_
  refine go ?_
  refine GoL.sl (Ef.lit (f := icell) (m := 1) (e := 3) [0, 1, 2, 3] (fun _ => rfl) rfl) (fun a17 c17 => ?_)
  refine go ?_
  refine GoL.cv (fun w' hw => xInts [0, 1, 2, 3] r7.1 a17 r7.2 c17 w' (hw.rd pk) (hw.ownRd pk) (by decide)) ?_
  refine go ?_
  refine GoL.sl (Ef.lit (f := icell) (m := 1) (e := 3) [4210947, 5, 7, 10518531, 0] (fun _ => rfl) rfl) (fun a18 c18 => ?_)
  refine go ?_
  refine GoL.cv (fun w' hw => xInts [4210947, 5, 7, 10518531, 0] (some ⟨g13, 0, none⟩) a18 128 c18 w' (by rw [← ex_lay q10.1 q10.2.1 q10.2.2]; exact (rdC (hw.cells pk)).take 5) (hw.ownRd pk) (by decide)) ?_
  refine go ?_
  exact ev1 rfl
end

section
set_option linter.all false
open Go.RowKit

theorem timeT_turn {lay lay' : List Int} {l : List Evt} {d : Int} (h : ∀ v ∈ l, (lx lay' v.item.toNat - lx lay v.item.toNat - d) % 16 = 0) (hb : beginT lay' l = beginT lay l + d) : ∀ i, i < l.length → timeT lay' l i = timeT lay l i + d
  | 0, _ => hb
  | i + 1, hi => by
    have ih := timeT_turn h hb i (by omega)
    have h1 := h _ (lx_mem hi)
    simp only [timeT, stepT, ih]
    omega
theorem pathT_turn {lay lay' : List Int} {l : List Evt} {s : Int} (h : ∀ v ∈ l, (lx lay' v.item.toNat - lx lay v.item.toNat - s) % 16 = 0) : pathT lay' l = pathT lay l := by
  unfold pathT
  rcases Nat.eq_zero_or_pos l.length with h0 | h0
  · rw [h0]; simp [timeT]
  · have h1 := h _ (lx_mem h0)
    have h2 := timeT_turn (lay := lay) (lay' := lay') (l := l) (d := beginT lay' l - beginT lay l) (fun v hv => by
      have h3 := h v hv
      unfold beginT
      omega) (by omega) (l.length - 1) (by omega)
    omega
theorem costL_turn {t : TD} (ht : t.Ok) {lay lay' : List Int} {s : Int} (h : ∀ k, k < t.os.length + t.data.toNat → (lx lay' k - lx lay k - s) % 16 = 0) : costL t lay' = costL t lay := by
  unfold costL
  have key : ∀ m, m ≤ t.ps.length → costT (fun i => (lx t.ps i).cnt) (fun i => lx (openE t) i) lay' m = costT (fun i => (lx t.ps i).cnt) (fun i => lx (openE t) i) lay m := by
    intro m
    induction m with
    | zero => intro _; rfl
    | succ m ih =>
      intro hm
      simp only [costT]
      rw [ih (by omega)]
      congr 2
      refine pathT_turn (s := s) fun v hv => ?_
      have hp := lx_mem (l := t.ps) (i := m) (by omega)
      rw [openE, lx_map (by omega)] at hv
      have hi := pathE_item ht hp v hv
      exact h _ (by have := ht.d1; omega)
  exact key _ (Nat.le_refl _)
theorem layE_mk {n : Nat} {lines : Int} {lay : List Int} (h1 : lay.length = n) (h2 : ∀ a ∈ lay, 0 ≤ a ∧ a < lines * 16) (h3 : ∀ i j, i < j → j < lay.length → lx lay i ≠ lx lay j) : layE n lines lay = 0 := by
  unfold layE
  rw [if_neg (by omega), firstBad_none]
  intro j hj
  have := h2 _ (lx_mem hj)
  rw [if_neg (by unfold outP; omega), if_neg]
  intro hm
  obtain ⟨i, hi, e⟩ := List.mem_iff_getElem.1 hm
  have hij : i < j := by simp at hi; omega
  rw [List.getElem_take] at e
  exact h3 i j hij hj (by rw [lx_eq (by omega), e])
theorem take_ne {lay : List Int} (h : ∀ i, i < lay.length → lx lay i ∉ lay.take i) {i j : Nat} (hij : i < j) (hj : j < lay.length) : lx lay i ≠ lx lay j := by
  intro e
  refine h j hj ?_
  rw [← e, lx_eq (by omega)]
  exact List.mem_iff_getElem.2 ⟨i, by simp; omega, by simp⟩
/-- an injective change of the addresses -/
theorem layE_map {n : Nat} {lines : Int} {lay : List Int} {g : Int → Int} (h : layE n lines lay = 0) (hg : ∀ a, 0 ≤ a → a < lines * 16 → 0 ≤ g a ∧ g a < lines * 16) (hi : ∀ a b, 0 ≤ a → a < lines * 16 → 0 ≤ b → b < lines * 16 → g a = g b → a = b) : layE n lines (lay.map g) = 0 := by
  obtain ⟨h1, h2, h3⟩ := layE_ok h
  refine layE_mk (by rw [List.length_map, h1]) (fun a ha => ?_) fun i j hij hj => ?_
  · obtain ⟨b, hb, rfl⟩ := List.mem_map.1 ha
    exact hg b (h2 b hb).1 (h2 b hb).2
  · rw [List.length_map] at hj
    rw [lx_map (by omega), lx_map hj]
    intro e
    have b1 := h2 _ (lx_mem (l := lay) (i := i) (by omega))
    have b2 := h2 _ (lx_mem (l := lay) (i := j) hj)
    exact take_ne h3 hij hj (hi _ _ b1.1 b1.2 b2.1 b2.2 e)
def turnA (x a : Int) : Int := a / 16 * 16 + (a + x) % 16
def swapA (p q a : Int) : Int := (if a / 16 = p then q else if a / 16 = q then p else a / 16) * 16 + a % 16
theorem turn_ok {t : TD} {lay : List Int} {x : Int} (h : costR t lay = (costL t lay, 0)) (ht : t.Ok) (hl : layL t lay = 0) : layL t (lay.map (turnA x)) = 0 ∧ costL t (lay.map (turnA x)) = costL t lay := by
  obtain ⟨h1, h2, h3⟩ := layE_ok hl
  refine ⟨layE_map hl (fun a h0 h4 => by unfold turnA; omega) (fun a b a0 a1 b0 b1 e => by unfold turnA at e; omega), costL_turn ht (s := x) fun k hk => ?_⟩
  rw [lx_map (by omega)]
  unfold turnA
  omega
theorem swap_ok {t : TD} {lay : List Int} {p q : Int} (hp : 0 ≤ p ∧ p < t.lines) (hq : 0 ≤ q ∧ q < t.lines) (ht : t.Ok) (hl : layL t lay = 0) : layL t (lay.map (swapA p q)) = 0 ∧ costL t (lay.map (swapA p q)) = costL t lay := by
  obtain ⟨h1, h2, h3⟩ := layE_ok hl
  refine ⟨layE_map hl (fun a h0 h4 => by unfold swapA; split; omega; split <;> omega) (fun a b a0 a1 b0 b1 e => by unfold swapA at e; split at e <;> split at e <;> (try split at e) <;> (try split at e) <;> omega), costL_turn ht (s := 0) fun k hk => ?_⟩
  rw [lx_map (by omega)]
  unfold swapA
  omega
end

section
set_option linter.all false
set_option pp.maxSteps 100000
set_option maxRecDepth 100000
set_option maxHeartbeats 4000000
open Go.RowKit

theorem costR_cases (t : TD) (lay : List Int) : (∃ e, ¬ e = 0 ∧ costR t lay = (0, e)) ∨ ((chkL t).2.2 = 0 ∧ layL t lay = 0 ∧ costR t lay = (costL t lay, 0)) := by
  unfold costR
  split
  · rename_i h; exact .inl ⟨_, h, rfl⟩
  · rename_i h1
    split
    · rename_i h; exact .inl ⟨_, h, rfl⟩
    · rename_i h2; exact .inr ⟨by simpa using h1, by simpa using h2, rfl⟩
theorem costL_nn {t : TD} (ht : t.Ok) (lay : List Int) : 0 ≤ costL t lay ∧ costL t lay ≤ 24000000 := by
  have hc := fun i (hi : i < t.ps.length) => (wildL_ok (ht.w _ (lx_mem (l := t.ps) (i := i) hi)))
  have := costT_bd (cnt := fun i => (lx t.ps i).cnt) (es := fun i => lx (openE t) i) (lay := lay) (m := t.ps.length) (fun i hi => (hc i hi).2.1) (fun i hi => by
    rw [openE, lx_map hi]
    exact pathT_bd (fun v hv => (pathE_item ht (lx_mem hi) v hv).2.2) (by have := pathE_len t.os (lx t.ps i).os (hc i hi).1.2; omega)) t.ps.length (Nat.le_refl _)
  have := ht.p1
  unfold costL
  omega
def tmapL (g : Int → Int) (lay : List Int) (k : Nat) : List Int := (lay.take k).map g
theorem tmapL_len {g : Int → Int} {lay : List Int} {k : Nat} (h : k ≤ lay.length) : (tmapL g lay k).length = k := by unfold tmapL; rw [List.length_map, List.length_take]; omega
theorem tmapL_succ {g : Int → Int} {lay : List Int} {k : Nat} (h : k < lay.length) : tmapL g lay k ++ [g (lx lay k)] = tmapL g lay (k + 1) := by unfold tmapL; rw [List.take_succ, lx_some h]; simp
theorem tmapL_all {g : Int → Int} {lay : List Int} : tmapL g lay lay.length = lay.map g := by unfold tmapL; rw [List.take_length]
theorem cost_tm (t : TD) (lay : List Int) (g : Int → Int) (a : Option Addr) (c : Nat) (n : Int) (w : World) (hn : t.Len) (hT : t.At w) (hl : Rd icell 1 w a (tmapL g lay lay.length)) (hll : (tmapL g lay lay.length).length ≤ 9223372036854775807 ∧ (tmapL g lay lay.length).length ≤ c) (h : costR t (lay.map g) = (n, 0)) :
    Calls Try.prog 8 #[.agg #[.slice t.ao t.os.length t.co, .int .i64 t.data, .int .i64 t.lines, .slice t.ap t.ps.length t.cp], .slice a (tmapL g lay lay.length).length c] w (fun e w' => e = .returned (.tuple #[.int .i64 n, .int .i64 0]) ∧ Below w.heap.size w w') := by
  have h3 := Cost_v t (tmapL g lay lay.length) a c w hn hT hl hll
  rw [tmapL_all, h] at h3
  rw [tmapL_all]
  exact h3
theorem turned_walk (t : TD) (lay : List Int) (al : Option Addr) (cl : Nat) (x0 x1 x2 : Int) (w : World) (hn : t.Len) (hT : t.At w) (hl : Rd icell 1 w al lay) (hll : lay.length ≤ 9223372036854775807 ∧ lay.length ≤ cl) (b0 : 0 ≤ x0 ∧ x0 ≤ 255) (b1 : 0 ≤ x1 ∧ x1 ≤ 255) (b2 : 0 ≤ x2 ∧ x2 ≤ 255) :
    Calls Try.prog 5 #[.agg #[.slice t.ao t.os.length t.co, .int .i64 t.data, .int .i64 t.lines, .slice t.ap t.ps.length t.cp], .slice al lay.length cl, .agg #[.int .u8 x0, .int .u8 x1, .int .u8 x2]] w (fun e w' => e = .returned (.bool true) ∧ Below w.heap.size w w') := by
  refine go_in Try.func5 rfl Try.ntmps5 [] [] (Mem.start _) ?_
  refine go ?_
  refine GoL.a (fun b3 => ?_)
  refine go ?_
  refine GoL.a (fun b5 => ?_)
  refine go ?_
  refine GoL.cv (fun w' hw => Cost_v t lay al cl w' hn (hT.old hw) (hw.old hl) hll) ?_
  rcases costR_cases t lay with ⟨e, he, hR⟩ | ⟨hc, hL, hR⟩
  · rw [hR]
    clear hR
    have he2 : (e != 0) = true := by simpa using he
    refine go ?_
    refine GoL.cv (fun w' hw => awake_v w') ?_
    refine go ?_
    exact ev1 rfl
  rw [hR]
  clear hR
  obtain ⟨⟨p, i, e⟩, hr⟩ : ∃ q : Int × Int × Int, q = chkL t := ⟨_, rfl⟩
  rw [← hr] at hc
  dsimp only at hc
  subst hc
  have htok := chkL_ok hr.symm
  have hb := costL_nn htok lay
  have hl1 := htok.l1
  refine go ?_
  refine go_if (fun h => ?_) (fun h => ?_)
  · exact absurd h (by omega)
  have hz : ¬ t.lines = 0 := by omega
  refine go ?_
  have hp : 0 ≤ x1 % t.lines ∧ x1 % t.lines < t.lines := ⟨Int.emod_nonneg x1 hz, Int.emod_lt_of_pos x1 (by omega)⟩
  have hq : 0 ≤ x2 % t.lines ∧ x2 % t.lines < t.lines := ⟨Int.emod_nonneg x2 hz, Int.emod_lt_of_pos x2 (by omega)⟩
  generalize x1 % t.lines = p at hp ⊢
  generalize x2 % t.lines = q at hq ⊢
  have hLE := hid (layE_ok hL)
  have hcs : ∀ l', layL t l' = 0 → costL t l' = costL t lay → costR t l' = (costL t lay, 0) := fun l' e1 e2 => by
    unfold costR; rw [← hr, if_neg (by simp), if_neg (by simpa using e1), e2]
  have hcT := hcs _ (turn_ok (x := x0) (hcs _ hL rfl) htok hL).1 (turn_ok (x := x0) (hcs _ hL rfl) htok hL).2
  have hcS := hcs _ (swap_ok hp hq htok hL).1 (swap_ok hp hq htok hL).2
  have hcT' := hid hcT
  have hcS' := hid hcS
  clear hcT hcS hcs
  refine GoC.mem (fun w hw => Mem.own0 icell 1 3 (Mem.own0 icell 1 3 hw)) ?_
  refine go_loop (X := Nat × (Option Addr × Nat) × (Option Addr × Nat)) (fun y => y.1 ≤ lay.length) (fun y => lay.length - y.1) (fun y => [(13, .int .i64 y.1), (11, .slice y.2.1.1 (tmapL (turnA x0) lay y.1).length y.2.1.2), (12, .slice y.2.2.1 (tmapL (swapA p q) lay y.1).length y.2.2.2)])
    (fun y => [.cells b5 [.int .u8 x0, .int .u8 x1, .int .u8 x2], .cells b3 [.slice t.ao t.os.length t.co, .int .i64 t.data, .int .i64 t.lines, .slice t.ap t.ps.length t.cp], .own icell 1 3 (.slice y.2.1.1 (tmapL (turnA x0) lay y.1).length y.2.1.2) (tmapL (turnA x0) lay y.1), .own icell 1 3 (.slice y.2.2.1 (tmapL (swapA p q) lay y.1).length y.2.2.2) (tmapL (swapA p q) lay y.1)]) (0, (none, 0), (none, 0)) [1, 3, 5, 7, 9, 10] (Nat.zero_le _) (by simp [AgreeL, At, tmapL]) (by simp only [tmapL, List.take_zero, List.map_nil]; exact sb) (fun y hy => ?_)
  obtain ⟨k, ⟨a1, c1⟩, a2, c2⟩ := y
  dsimp only at hy ⊢
  have hln : lay.length ≤ 40 := by have := htok.n1; have := htok.d1; have := hLE.out.1; omega
  have hm1 := hid (tmapL_len (g := turnA x0) (lay := lay) hy)
  have hm2 := hid (tmapL_len (g := swapA p q) (lay := lay) hy)
  refine go ?_
  refine go_if (fun h2 => ?_) (fun h2 => ?_)
  · have hk : k < lay.length := by omega
    have hrg := hLE.out.2.1 _ (lx_mem hk)
    refine go ?_
    refine GoL.sl (Ef.lit (f := icell) (m := 1) (e := 3) [turnA x0 (lx lay k)] (fun _ => rfl) rfl) (fun a3 c3 => ?_)
    refine go ?_
    refine GoL.sl (Ef.app (f := icell) (l := tmapL (turnA x0) lay k) (l2 := [turnA x0 (lx lay k)]) (v := .slice a1 (tmapL (turnA x0) lay k).length c1) elI (fun _ => rfl) icell_one (by have := hm1.out; simp only [List.length_cons, List.length_nil]; omega) pk (fun w hw => hw.ownRd (l := [turnA x0 (lx lay k)]) pk)) (fun a4 c4 => ?_)
    rw [tmapL_succ hk]
    refine go ?_
    refine go_join [(1, .slice al lay.length cl), (3, .pointer (some ⟨b3, 0, none⟩)), (5, .pointer (some ⟨b5, 0, none⟩)), (7, .int .i64 (costL t lay)), (9, .int .i64 p), (10, .int .i64 q), (13, .int .i64 k), (11, .slice a4 (tmapL (turnA x0) lay (k + 1)).length c4), (12, .slice a2 (tmapL (swapA p q) lay k).length c2), (15, .int .i64 (lx lay k % 16)), (14, .int .i64 (if lx lay k / 16 = p then q else if lx lay k / 16 = q then p else lx lay k / 16))]
      [.cells b5 [.int .u8 x0, .int .u8 x1, .int .u8 x2], .cells b3 [.slice t.ao t.os.length t.co, .int .i64 t.data, .int .i64 t.lines, .slice t.ap t.ps.length t.cp], .own icell 1 3 (.slice a4 (tmapL (turnA x0) lay (k + 1)).length c4) (tmapL (turnA x0) lay (k + 1)), .own icell 1 3 (.slice a2 (tmapL (swapA p q) lay k).length c2) (tmapL (swapA p q) lay k)] ?_ ?_
    · refine go_if (fun h5 => ?_) (fun h5 => ?_)
      · have h6 := hid h5
        clear h5
        refine go ?_
        rw [if_pos (by simpa using h6.out)]
        exact xj_n (by simp [AgreeL, At]) sb
      · rw [if_neg (by simpa using h5)]
        refine go ?_
        refine go_if (fun h7 => ?_) (fun h7 => ?_)
        · have h6 := hid h7
          clear h7
          refine go ?_
          rw [if_pos (by simpa using h6.out)]
          exact xj_n (by simp [AgreeL, At]) sb
        · rw [if_neg (by simpa using h7)]
          refine go ?_
          exact xj_n (by simp [AgreeL, At]) sb
    have hsw : 0 ≤ (if lx lay k / 16 = p then q else if lx lay k / 16 = q then p else lx lay k / 16) ∧ (if lx lay k / 16 = p then q else if lx lay k / 16 = q then p else lx lay k / 16) ≤ 8 := by split; omega; split <;> omega
    have HSW : Hid (swapA p q (lx lay k) = (if lx lay k / 16 = p then q else if lx lay k / 16 = q then p else lx lay k / 16) * 16 + lx lay k % 16) := hid rfl
    generalize (if lx lay k / 16 = p then q else if lx lay k / 16 = q then p else lx lay k / 16) = ln at hsw HSW ⊢
    refine go ?_
    refine GoL.sl (Ef.lit (f := icell) (m := 1) (e := 3) [ln * 16 + lx lay k % 16] (fun _ => rfl) rfl) (fun a5 c5 => ?_)
    refine go ?_
    refine GoL.sl (Ef.app (f := icell) (l := tmapL (swapA p q) lay k) (l2 := [ln * 16 + lx lay k % 16]) (v := .slice a2 (tmapL (swapA p q) lay k).length c2) elI (fun _ => rfl) icell_one (by have := hm2.out; simp only [List.length_cons, List.length_nil]; omega) pk (fun w hw => hw.ownRd (l := [ln * 16 + lx lay k % 16]) pk)) (fun a6 c6 => ?_)
    rw [← HSW.out, tmapL_succ hk]
    refine go ?_
    exact go_again (k + 1, (a4, c4), (a6, c6)) hk (by simp only; omega) (by simp [AgreeL, At]) sb
  obtain rfl : k = lay.length := by omega
  refine go ?_
  refine GoL.cv (fun w' hw => cost_tm t lay (turnA x0) a1 c1 (costL t lay) w' hn (hT.old hw) (hw.ownRd pk) ⟨by have := hm1.out; omega, (hw.own (l := tmapL (turnA x0) lay lay.length) pk).cap⟩ hcT'.out) ?_
  refine go ?_
  refine GoL.cv (fun w' hw => cost_tm t lay (swapA p q) a2 c2 (costL t lay) w' hn (hT.old hw) (hw.ownRd pk) ⟨by have := hm2.out; omega, (hw.own (l := tmapL (swapA p q) lay lay.length) pk).cap⟩ hcS'.out) ?_
  refine go ?_
  refine GoL.cv (fun w' hw => awake_v w') ?_
  refine go ?_
  exact ev1 rfl
end

section

open Go.ChangeShapes Go.WideShapes Go.ChangeAt Go.RowKit Go.Deep

section
variable {H : Type} {enc : TypeId × Value → H} {P : Program} {w : World} {spare : Nat → Bool}

/-- a slice whose elements each read as some α with cells f -/
theorem open_rows {α : Type} [Inhabited α] {f : α → List Value} {m : Nat} {t e : TypeId} {ok : α → Prop} {fuel : Nat} {cs : List Value} {x : DataW H × List MemPlace} (ht : P.underlying t = some (.slice e)) (hC : P.cellsOf e = m)
    (hel : ∀ (n : Nat) (cs' : List Value) (z : DataW H × List MemPlace), cs'.length = m → DataW.trod enc P w 0 spare true n e cs' = some z → ∃ y : α, cs' = f y ∧ ok y) (hm : 0 < m) (h : DataW.trod enc P w 0 spare true fuel t cs = some x) (hlt : ∀ p ∈ x.2, p.block < w.heap.size) :
    ∃ a c, ∃ l : List α, cs = [.slice a l.length c] ∧ Rd f m w a l ∧ l.length ≤ maxLen ∧ ∀ y ∈ l, ok y := by
  rcases open_slice ht h with ⟨rfl, _⟩ | ⟨a, len, cap, m', n, D, Pl, rfl, _, hl, hcap, hm', rfl, hi⟩
  · exact ⟨none, 0, [], rfl, .inl rfl, Nat.zero_le _, fun y hy => by cases hy⟩
  · rw [hC] at hi
    have hle : len ≤ m' := by rw [hm']; split <;> omega
    have hex : ∀ i, i < len → ∃ y : α, (∀ j v, (f y)[j]? = some v → w.cell? (a.add (i * m + j)) = some v) ∧ (f y).length = m ∧ ok y := by
      intro i hilt
      obtain ⟨cs', hc, htr⟩ := hi i (by omega)
      obtain ⟨_, hlen, hcell⟩ := World.cells?_some hc
      obtain ⟨y, rfl, hok⟩ := hel n cs' _ hlen htr
      refine ⟨y, fun j v hv => ?_, hlen, hok⟩
      have hj : j < m := by
        rcases Nat.lt_or_ge j m with h | h
        · exact h
        · rw [List.getElem?_eq_none (by omega)] at hv; cases hv
      rw [← Go.Deep.add_add, hcell j hj, hv]
    obtain ⟨g, hg⟩ := choose_lt hex
    refine ⟨some a, cap, (List.range len).map g, by simp, ?_, by simp; omega, fun y hy => ?_⟩
    · by_cases h0 : len = 0
      · subst h0; exact .inl rfl
      · have h00 := hg 0 (by omega)
        obtain ⟨b, off, spot⟩ := a
        have hz : ∃ v, (f (g 0))[0]? = some v := ⟨_, List.getElem?_eq_getElem (by rw [h00.2.1]; exact hm)⟩
        obtain ⟨v0, hv0⟩ := hz
        have hc0 := h00.1 0 v0 hv0
        have hspot : spot = none := by simpa [Addr.add] using World.cell?_spot hc0
        subst hspot
        refine .inr ⟨b, off, rfl, ?_, fun i y hy j v hv => ?_⟩
        · have : MemPlace.cell b off ∈ MemPlace.row ⟨b, off, none⟩ (m' * P.cellsOf e) ++ (List.range m').flatMap Pl := by
            refine List.mem_append_left _ ?_
            have hpos : 0 < m' * P.cellsOf e := Nat.mul_pos (by omega) (by omega)
            simp only [MemPlace.row, List.mem_map, List.mem_range]
            exact ⟨0, hpos, by simp⟩
          exact hlt _ this
        · have hil : i < len := by
            rcases Nat.lt_or_ge i len with h | h
            · exact h
            · rw [List.getElem?_eq_none (by simpa using h)] at hy; cases hy
          rw [List.getElem?_eq_getElem (by simpa using hil)] at hy
          obtain rfl : g i = y := by simpa using hy
          have := (hg i hil).1 j v hv
          rw [Go.WideShapes.add_plain] at this
          rw [Nat.add_assoc]; exact this
    · obtain ⟨i, hi', rfl⟩ := List.mem_map.1 hy
      exact (hg i (by simpa using hi')).2.2
end

/-- THE POST of a law that leaves old memory alone. -/
theorem trodAll_below {H : Type} {enc : TypeId × Value → H} {P : Program} {W W' : World} (hl : laidOutB P = true) (hb : Below W.heap.size W W') {sp : Nat → Bool} : ∀ {ts : List TypeId} {vs : List Value} {ds : List (DataW H)} {ps : List MemPlace},
    (∀ t ∈ ts, P.readableRec t = true ∧ t < P.types.size) → DataW.TrodAll enc P W 0 (fun _ => true) true ts vs ds ps → (∀ p ∈ ps, p.block < W.heap.size) → (∀ p ∈ ps, sp p.block = true) → DataW.TrodAll enc P W' 0 sp true ts vs ds ps
  | [], [], [], _, _, h, _, _ => h
  | _ :: _, _ :: _, _ :: _, _, hT, ⟨p, q, h1, h2, e⟩, hlt, hs => by
    subst e
    refine ⟨p, q, WideElems.Trod_stays hl (hT _ (by simp)).1 (hT _ (by simp)).2 h1 (fun x hx => hb.same (hlt x (by simp [hx]))) (fun x hx => hs x (by simp [hx])), trodAll_below hl hb (fun t ht => hT t (by simp [ht])) h2 (fun x hx => hlt x (by simp [hx])) (fun x hx => hs x (by simp [hx])), rfl⟩

theorem post_law {H : Type} {enc : TypeId × Value → H} {P : Program} {f : Func} {s : ChangeSpec} {apart : Bool} {W W' : World} {args : Array Value} {ds : List (DataW H)} {before : List MemPlace} {tb : TypeId}
    (hl : laidOutB P = true) (hr : ∀ t ∈ f.params.toList, P.readableRec t = true ∧ t < P.types.size) (hres : f.resultTypes = #[tb]) (hbool : P.underlying tb = some .bool)
    (hW : DataW.Whole enc P f.params.toList s.vars apart W args.toList ds [] before) (hvs : s.vars = []) (hfn : s.fn H ds = { results := [.lit (.bool true)], args := ds }) (hb : Below W.heap.size W W') :
    s.post enc P f apart true false false W args (.bool true) W' := by
  have hlt : ∀ p ∈ before, p.block < W.heap.size := fun p hp => hW.lt p hp
  have hfn' : s.fn H (ds ++ []) = { results := [.lit (.bool true)], args := ds } := by rw [List.append_nil]; exact hfn
  have hW0 := hW
  obtain ⟨pa, pv, hA, hV, hps, hz, hn⟩ := hW
  rw [hvs] at hV
  obtain ⟨_, rfl⟩ := trodVars_none hV
  simp only [List.append_nil] at hps
  subst hps
  have hargs : ∀ sp : Nat → Bool, (∀ p ∈ before, sp p.block = true) → DataW.TrodAll enc P W' 0 sp true f.params.toList args.toList ds before := fun sp hsp => trodAll_below hl hb hr hA hlt hsp
  have hresl : ∀ (b : Nat) (sp : Nat → Bool) (hd : Bool), DataW.TrodAll enc P W' b sp hd f.resultTypes.toList ((Value.bool true).resultList f.resultTypes.size) [.lit (.bool true)] [] := by
    intro b sp hd
    rw [hres]
    exact trodAll_mk1 (shut_bool hbool true)
  have hok : ∀ (j : Nat) (t : TypeId) (r : Value), f.resultTypes[j]? = some t → ((Value.bool true).resultList f.resultTypes.size)[j]? = some r → Value.okWide P W' .any 0 t r := ok_one hres rfl (okWide_bool_mk hbool true)
  have hargs' : ∀ sp : Nat → Bool, (∀ p ∈ before, sp p.block = true) → DataW.TrodAll enc P W' 0 sp true f.params.toList args.toList (s.fn H (ds ++ [])).args before := by rw [hfn']; exact hargs
  have hresl' : ∀ (b : Nat) (sp : Nat → Bool) (hd : Bool), DataW.TrodAll enc P W' b sp hd f.resultTypes.toList ((Value.bool true).resultList f.resultTypes.size) (s.fn H (ds ++ [])).results [] := by rw [hfn']; exact hresl
  have hvars' : ∀ sp : Nat → Bool, DataW.TrodVars enc P W' sp s.vars (s.fn H (ds ++ [])).vars [] := by rw [hfn', hvs]; exact fun _ => rfl
  refine ⟨ds, [], before, [], before, [], hW0, hresl' _ _ _, hargs' _ (fun p hp => by simpa using hlt p hp), hvars' _, World.keptBut_mono (fun p hp => ⟨hp, by simpa using hp⟩) (hb.frame (· ∈ before)), fun _ => ?_⟩
  · refine ⟨hok, _, _, ([] ++ before) ++ [], ⟨[] ++ before, [], trodAll_append (hargs' _ (fun _ _ => rfl)) (hresl' _ _ _), hvars' _, rfl, ?_, ?_⟩, ?_⟩
    · intro b off hp
      have hin : MemPlace.cell b off ∈ before := by simpa using hp
      rw [hb.frozen (hlt _ hin)]
      exact hz b off hin
    · intro ha
      have := hn ha
      simpa using this
    · intro p hp _
      simpa using hp

/- this program -/
theorem own : ownKnob Try.prog.godebug = none := by kernel_rfl
theorem laidOut : laidOutB Try.prog = true := by kernel_rfl
end

section
set_option linter.all false
open Go.ChangeShapes Go.WideShapes Go.ChangeAt Go.RowKit Go.Deep

section
variable {H : Type} {P : Program} {enc : TypeId × Value → H} {w : World} {spare : Nat → Bool} {n : Nat}
theorem open_rows4 {α : Type} [Inhabited α] {f : α → List Value} {m : Nat} {t e : TypeId} {ok : α → Prop} {fuel : Nat} {cs : List Value} {x : DataW H × List MemPlace} (ht : P.underlying t = some (.slice e)) (hC : P.cellsOf e = m)
    (hel : ∀ (n : Nat) (cs' : List Value) (z : DataW H × List MemPlace), cs'.length = m → DataW.trod enc P w 0 spare true n e cs' = some z → (∀ p ∈ z.2, p.block < w.heap.size) → ∃ y : α, cs' = f y ∧ ok y) (hm : 0 < m) (h : DataW.trod enc P w 0 spare true fuel t cs = some x) (hlt : ∀ p ∈ x.2, p.block < w.heap.size) :
    ∃ a c, ∃ l : List α, cs = [.slice a l.length c] ∧ Rd f m w a l ∧ l.length ≤ maxLen ∧ l.length ≤ c ∧ ∀ y ∈ l, ok y := by
  rcases open_slice ht h with ⟨rfl, _⟩ | ⟨a, len, cap, m', n, D, Pl, rfl, _, hl, hcap, hm', rfl, hi⟩
  · exact ⟨none, 0, [], rfl, .inl rfl, Nat.zero_le _, Nat.le_refl _, fun y hy => by cases hy⟩
  · rw [hC] at hi
    have hle : len ≤ m' := by rw [hm']; split <;> omega
    have hex : ∀ i, i < len → ∃ y : α, (∀ j v, (f y)[j]? = some v → w.cell? (a.add (i * m + j)) = some v) ∧ (f y).length = m ∧ ok y := by
      intro i hilt; obtain ⟨cs', hc, htr⟩ := hi i (by omega); obtain ⟨_, hlen, hcell⟩ := World.cells?_some hc; obtain ⟨y, rfl, hok⟩ := hel n cs' _ hlen htr (fun p hp => hlt p (List.mem_append_right _ (List.mem_flatMap.2 ⟨i, List.mem_range.2 (by omega), hp⟩))); refine ⟨y, fun j v hv => ?_, hlen, hok⟩
      have hj : j < m := by
        rcases Nat.lt_or_ge j m with h | h
        · exact h
        · rw [List.getElem?_eq_none (by omega)] at hv; cases hv
      rw [← Go.Deep.add_add, hcell j hj, hv]
    obtain ⟨g, hg⟩ := choose_lt hex; refine ⟨some a, cap, (List.range len).map g, by simp, ?_, by simp; omega, by simp; omega, fun y hy => ?_⟩
    · by_cases h0 : len = 0
      · subst h0; exact .inl rfl
      · have h00 := hg 0 (by omega)
        obtain ⟨b, off, spot⟩ := a; have hz : ∃ v, (f (g 0))[0]? = some v := ⟨_, List.getElem?_eq_getElem (by rw [h00.2.1]; exact hm)⟩; obtain ⟨v0, hv0⟩ := hz; have hc0 := h00.1 0 v0 hv0
        have hspot : spot = none := by simpa [Addr.add] using World.cell?_spot hc0
        subst hspot; refine .inr ⟨b, off, rfl, ?_, fun i y hy j v hv => ?_⟩
        · have : MemPlace.cell b off ∈ MemPlace.row ⟨b, off, none⟩ (m' * P.cellsOf e) ++ (List.range m').flatMap Pl := by
            refine List.mem_append_left _ ?_; have hpos : 0 < m' * P.cellsOf e := Nat.mul_pos (by omega) (by omega)
            simp only [MemPlace.row, List.mem_map, List.mem_range]
            exact ⟨0, hpos, by simp⟩
          exact hlt _ this
        · have hil : i < len := by
            rcases Nat.lt_or_ge i len with h | h
            · exact h
            · rw [List.getElem?_eq_none (by simpa using h)] at hy; cases hy
          rw [List.getElem?_eq_getElem (by simpa using hil)] at hy
          obtain rfl : g i = y := by simpa using hy
          have := (hg i hil).1 j v hv; rw [Go.WideShapes.add_plain] at this; rw [Nat.add_assoc]; exact this
    · obtain ⟨i, hi', rfl⟩ := List.mem_map.1 hy
      exact (hg i (by simpa using hi')).2.2

end
section
variable {H : Type} {enc : TypeId × Value → H} {w : World} {spare : Nat → Bool} {n : Nat}
theorem fld_int {i : Nat} {xs : List (DataW H × List MemPlace)} {l : List Value} (hf : DataW.trod enc Try.prog w 0 spare true n 3 l = xs[i]?) (hi : i < xs.length) : ∃ k, l = [.int .i64 k] ∧ (-9223372036854775808 ≤ k ∧ k ≤ 9223372036854775807) := by
  rw [List.getElem?_eq_getElem hi] at hf; obtain ⟨k, hk, _, hw⟩ := DataW.trod_int Try.underlying3 hf; exact ⟨k, hk, bounds_i64 hw⟩
theorem okWide_array {P : Program} {w : World} {r : Reach} {base n : Nat} {t e : TypeId} {v : Value} (ht : P.underlying t = some (.array n e)) (h : Value.okWide P w r base t v) : ∃ cs, v = .agg cs ∧ cs.size = P.cellsOf t := by
  simp only [Value.okWide, ht] at h
  obtain ⟨cs, h1, h2, _⟩ := h; exact ⟨cs, h1, h2⟩
theorem fld_u8 {i : Nat} {xs : List (DataW H × List MemPlace)} {l : List Value} (hf : DataW.trod enc Try.prog w 0 spare true n 5 l = xs[i]?) (hi : i < xs.length) : ∃ k, l = [.int .u8 k] ∧ (0 ≤ k ∧ k ≤ 255) := by
  rw [List.getElem?_eq_getElem hi] at hf; obtain ⟨k, hk, _, hw⟩ := DataW.trod_int Try.underlying5 hf; exact ⟨k, hk, bounds_u8 hw⟩
set_option maxRecDepth 100000 in
theorem open_u8_3 {base : Nat} {v : Value} {d : DataW H} {p : List MemPlace} (hv : Value.okWide Try.prog w .any base 45 v) (h : DataW.Trod enc Try.prog w 0 spare true 45 v d p) :
    ∃ x0 x1 x2 : Int, v = .agg #[.int .u8 x0, .int .u8 x1, .int .u8 x2] ∧ (0 ≤ x0 ∧ x0 ≤ 255) ∧ (0 ≤ x1 ∧ x1 ≤ 255) ∧ (0 ≤ x2 ∧ x2 ≤ 255) := by
  obtain ⟨cs0, rfl, hsz⟩ := okWide_array Try.underlying45 hv; obtain ⟨fuel, hf0⟩ := h; have e : Value.cells (.agg cs0) = cs0 := rfl; rw [e] at hf0; obtain ⟨xs, m, _, _, hlen, hx, hf⟩ := DataW.trod_array Try.underlying45 hf0; have hl : cs0.toList.length = 3 := hlen.trans (by kernel_rfl)
  have ec : Try.prog.cellsOf 5 = 1 := by kernel_rfl
  obtain ⟨cs0⟩ := cs0
  match cs0, hl with
  | [c0, c1, c2], _ =>
    obtain ⟨x0, h0, b0⟩ := fld_u8 (hf 0 (by decide)) (by omega); obtain ⟨x1, h1, b1⟩ := fld_u8 (hf 1 (by decide)) (by omega); obtain ⟨x2, h2, b2⟩ := fld_u8 (hf 2 (by decide)) (by omega)
    simp [ec] at h0 h1 h2
    subst h0 h1 h2; exact ⟨x0, x1, x2, rfl, b0, b1, b2⟩
set_option maxRecDepth 100000 in
theorem open_ord1 {cs : List Value} {x : DataW H × List MemPlace} (h : DataW.trod enc Try.prog w 0 spare true n 58 cs = some x) : ∃ s : LOrd, cs = LOrd.cs s := by
  obtain ⟨xs, n', _, _, hlen, hx, hf⟩ := DataW.trod_struct Try.underlying58 h; have hl : cs.length = 4 := hlen.trans (by kernel_rfl); have hxl : xs.length = 4 := hx.trans (by rfl)
  match cs, hl with
  | [c0, c1, c2, c3], _ =>
    obtain ⟨x0, h0, b0⟩ := fld_int (hf 0 _ rfl) (by omega); obtain ⟨x1, h1, b1⟩ := fld_int (hf 1 _ rfl) (by omega); obtain ⟨x2, h2, b2⟩ := fld_int (hf 2 _ rfl) (by omega); obtain ⟨x3, h3, b3⟩ := fld_int (hf 3 _ rfl) (by omega); refine ⟨⟨x0, x1, x2, x3⟩, ?_⟩
    have ec : Try.prog.cellsOf 3 = 1 := by kernel_rfl
    simp [ec] at h0 h1 h2 h3
    subst h0 h1 h2 h3; rfl
set_option maxRecDepth 100000 in
theorem open_int0 {fuel : Nat} {cs : List Value} {x : DataW H × List MemPlace} (h : DataW.trod enc Try.prog w 0 spare true fuel 30 cs = some x) (hlt : ∀ p ∈ x.2, p.block < w.heap.size) :
    ∃ a c, ∃ l : List Int, cs = [.slice a l.length c] ∧ Rd icell 1 w a l ∧ l.length ≤ 9223372036854775807 ∧ l.length ≤ c := by
  obtain ⟨a, c, l, hj, rj, nj, cj, _⟩ := open_rows4 (f := icell) (m := 1) (ok := fun _ : Int => True) Try.underlying30 (by kernel_rfl) (fun n cs' z _ hz _ => by obtain ⟨k, hk, _⟩ := DataW.trod_int Try.underlying3 hz; exact ⟨k, hk, trivial⟩) (by decide) h hlt; exact ⟨a, c, l, hj, rj, nj, cj⟩
/-- a path that an argument holds -/
def PthOk (w : World) (y : PthR) : Prop := Rd icell 1 w y.a y.os ∧ y.os.length ≤ 9223372036854775807 ∧ y.os.length ≤ y.c
set_option maxRecDepth 100000 in
theorem open_pth1 {cs : List Value} {x : DataW H × List MemPlace} (h : DataW.trod enc Try.prog w 0 spare true n 49 cs = some x) (hlt : ∀ q ∈ x.2, q.block < w.heap.size) : ∃ y : PthR, cs = y.cs ∧ PthOk w y := by
  obtain ⟨xs, n', _, hxe, hlen, hx, hf⟩ := DataW.trod_struct Try.underlying49 h; have hl : cs.length = 2 := hlen.trans (by kernel_rfl); have hxl : xs.length = 2 := hx.trans (by rfl)
  have ec : Try.prog.cellsOf 3 = 1 := by kernel_rfl
  have et : Try.prog.cellsOf 30 = 1 := by kernel_rfl
  match cs, hl, xs, hxl with
  | [c0, c1], _, [x0, x1], _ =>
    have h0 := hf 0 _ rfl
    obtain ⟨i1, g1, _⟩ := fld_int (hf 1 _ rfl) (by simp)
    simp [ec, et] at h0 g1
    obtain ⟨a0, d0, l0, j0, r0, n0, m0⟩ := open_int0 h0 (fun q hq => hlt q (by rw [hxe]; simp [hq]))
    simp at j0
    subst j0 g1; exact ⟨⟨l0, i1, a0, d0⟩, rfl, r0, n0, m0⟩
set_option maxRecDepth 100000 in
theorem open_task {base : Nat} {v : Value} {d : DataW H} {p : List MemPlace} (hv : Value.okWide Try.prog w .any base 28 v) (h : DataW.Trod enc Try.prog w 0 spare true 28 v d p) (hlt : ∀ x ∈ p, x.block < w.heap.size) :
    ∃ t : TD, v = .agg #[.slice t.ao t.os.length t.co, .int .i64 t.data, .int .i64 t.lines, .slice t.ap t.ps.length t.cp] ∧ t.At w ∧ t.Len ∧ t.os.length ≤ t.co ∧ t.ps.length ≤ t.cp := by
  obtain ⟨cs0, rfl, hsz⟩ := okWide_struct Try.underlying28 hv; obtain ⟨fuel, hf0⟩ := h; have e : Value.cells (.agg cs0) = cs0 := rfl; rw [e] at hf0; obtain ⟨xs, n', _, hxe, hlen, hx, hf⟩ := DataW.trod_struct Try.underlying28 hf0; have hl : cs0.toList.length = 4 := hlen.trans (by kernel_rfl); have hxl : xs.length = 4 := hx.trans (by rfl)
  have ec : Try.prog.cellsOf 3 = 1 := by kernel_rfl
  have eo : Try.prog.cellsOf 25 = 1 := by kernel_rfl
  have ep : Try.prog.cellsOf 26 = 1 := by kernel_rfl
  obtain ⟨cs0⟩ := cs0
  match cs0, hl, xs, hxl with
  | [c0, c1, c2, c3], _, [x0, x1, x2, x3], _ =>
    have h0 := hf 0 _ rfl; have h3 := hf 3 _ rfl; have hp := congrArg Prod.snd hxe
    simp only at hp
    obtain ⟨i1, g1, _⟩ := fld_int (hf 1 _ rfl) (by simp); obtain ⟨i2, g2, _⟩ := fld_int (hf 2 _ rfl) (by simp)
    simp [ec, eo, ep] at h0 h3 g1 g2
    obtain ⟨a0, d0, l0, j0, r0, n0, m0, _⟩ := open_rows4 (f := LOrd.cs) (m := 4) (ok := fun _ : LOrd => True) Try.underlying25 (by kernel_rfl) (fun n cs' z _ hz _ => (open_ord1 hz).imp fun _ e => ⟨e, trivial⟩) (by decide) h0 (fun q hq => hlt q (by rw [hp]; simp [hq]))
    obtain ⟨a3, d3, l3, j3, r3, n3, m3, k3⟩ := open_rows4 (f := PthR.cs) (m := 2) (ok := PthOk w) Try.underlying26 (by kernel_rfl) (fun n cs' z _ hz hlt' => open_pth1 hz hlt') (by decide) h3 (fun q hq => hlt q (by rw [hp]; simp [hq]))
    simp at j0 j3
    subst j0 j3 g1 g2
    unfold maxLen at n0 n3
    exact ⟨⟨l0, i1, i2, l3, a0, d0, a3, d3⟩, rfl, ⟨r0, r3, fun y hy => (k3 y hy).1⟩, ⟨by show l0.length ≤ _; omega, by show l3.length ≤ _; omega, fun y hy => (k3 y hy).2⟩, m0, m3⟩
set_option maxRecDepth 100000 in
theorem open_ints {base : Nat} {v : Value} {d : DataW H} {p : List MemPlace} (hv : Value.okWide Try.prog w .any base 30 v) (h : DataW.Trod enc Try.prog w 0 spare true 30 v d p) (hlt : ∀ x ∈ p, x.block < w.heap.size) :
    ∃ (l : List Int) (a : Option Addr) (c : Nat), v = .slice a l.length c ∧ Rd icell 1 w a l ∧ l.length ≤ 9223372036854775807 ∧ l.length ≤ c := by
  obtain ⟨a0, len, cap, rfl⟩ := okWide_slice Try.underlying30 hv; obtain ⟨fuel, hf0⟩ := h; obtain ⟨a, c, l, hj, rj, nj, cj⟩ := open_int0 hf0 (fun q hq => hlt q hq)
  simp [Value.cells] at hj
  obtain ⟨rfl, rfl, rfl⟩ := hj; exact ⟨l, a0, cap, rfl, rj, nj, cj⟩
end
end


end Go.Proofs.Ytigehmghcafblaa
