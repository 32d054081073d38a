/- Rows of layout: tasks, layouts opened. -/
import Derived.Test.YtigehmghcafblaaGreatlzW36
import Derived.Test.YtigehmghcafblaaGreatlzW21
import Derived.Test.YtigehmghcafblaaGreatlzG6
import Derived.Deep.Slices
import Derived.Deep.Fields
import Derived.ProofKit
import Derived.OpenShut
import Derived.Carry
import Derived.ChangeSame
import Derived.ReadAgain
set_option linter.all false
namespace Go.Proofs.YtigehmghcafblaaGreat

section
set_option linter.all false
set_option pp.maxSteps 100000
set_option maxRecDepth 100000
set_option maxHeartbeats 4000000
open Go.RowKit

theorem Ints_v (l m : List Int) (a a2 : Option Addr) (c c2 : Nat) (w : World) (hl : Rd icell 1 w a l) (hm : Rd icell 1 w a2 m) (hn : l.length ≤ 9223372036854775807) (hn2 : m.length ≤ 9223372036854775807) :
    Calls Tryz.prog 23 #[.slice a l.length c, .slice a2 m.length c2] w (fun e w' => e = .returned (.bool (decide (l = m))) ∧ Below w.heap.size w w') := by
  refine go_in Tryz.func23 rfl Tryz.ntmps23 [] [] (Mem.start _) ?_
  refine go ?_
  refine go_if (fun h => ?_) (fun h => ?_)
  · refine go ?_
    refine ev1 ?_
    have : ¬ l = m := fun e => h (by rw [e])
    simp [this]
  have hlm : l.length = m.length := by have h9 : (l.length : Int) = m.length := (by simpa using h); omega
  have HLM := hid hlm
  have hle : l.length ≤ m.length := by omega
  clear h hlm
  refine go ?_
  refine go_loop (X := Nat) (fun i => i ≤ l.length ∧ ∀ j, j < i → lx l j = lx m j) (fun i => l.length - i) (fun i => [(5, .int .i64 i)]) (fun _ => []) 0 [0, 1] ⟨Nat.zero_le _, fun j hj => by omega⟩ (by simp [AgreeL, At]) sb (fun i hi => ?_)
  obtain ⟨hi1, hi2⟩ := hi
  refine go ?_
  refine go_if (fun h => ?_) (fun h => ?_)
  · have hil : i < l.length := by omega
    have him : i < m.length := by omega
    refine go ?_
    refine go_if (fun h2 => ?_) (fun h2 => ?_)
    · refine go ?_
      refine ev1 ?_
      have : ¬ l = m := fun e => h2 (by rw [e])
      simp [this]
    · have h3 : lx l i = lx m i := by simpa using h2
      have h4 := hid h3
      clear h2 h3
      refine go ?_
      exact go_again (i + 1) ⟨hil, fun j hj => by
        rcases Nat.lt_or_ge j i with h5 | h5
        · exact hi2 j h5
        · obtain rfl : j = i := by omega
          exact h4.out⟩ (by omega) (by simp [AgreeL, At]) sb
  · refine go ?_
    refine ev1 ?_
    have : l = m := lx_ext HLM.out fun j hj => hi2 j (by omega)
    simp [this]
theorem lxP_ext {l m : List LaP} (hl : l.length = m.length) (h : ∀ i, i < l.length → lx l i = lx m i) : l = m := by
  apply List.ext_getElem hl
  intro i h1 h2
  have := h i h1
  rwa [lx_eq h1, lx_eq h2] at this
theorem Ex.neP {w0 : World} {Bs : List Nat} {n : Nat} {L : List (Nat × Value)} {H : List En} {d : Nat} {ty : TypeId} {pos : String} {af : Array Edge} {gd : Option (Nat × Bool)} {x y : Operand} (p q : LaP)
    (hx : ∀ g, evF n (tab L g) x = .agg #[.int .i64 p.path, .int .i64 p.fr, .int .i64 p.tt] := by intro g; simp only [evF_tmp, tab_cons, Nat.reduceLT, Nat.reduceEqDiff, ↓reduceIte]; (try rfl)) (hy : ∀ g, evF n (tab L g) y = .agg #[.int .i64 q.path, .int .i64 q.fr, .int .i64 q.tt] := by intro g; simp only [evF_tmp, tab_cons, Nat.reduceLT, Nat.reduceEqDiff, ↓reduceIte]; (try rfl)) :
    Ex w0 Bs Tryz.prog n ⟨some d, .binOp .neq 83 x y 83, ty, pos, af, gd⟩ L H (.bool (decide (¬ p = q))) := fun g w _ => by
  have key : ∀ R : Result Next → Prop, R (.ok (.value (.bool (decide (¬ p = q)))) w) → R ((execOp (evF n (tab L g)) ⟨some d, .binOp .neq 83 x y 83, ty, pos, af, gd⟩).run Tryz.prog w) := by
    intro R hR
    have e : decide (¬ p = q) = decide (¬ (p.path = q.path ∧ p.fr = q.fr ∧ p.tt = q.tt)) := by
      rw [decide_eq_decide]; obtain ⟨a, b, c⟩ := p; obtain ⟨a', b', c'⟩ := q; simp
    rw [e] at hR
    have h1 := hx g
    have h2 := hy g
    go_simp
    by_cases q1 : p.path = q.path <;> by_cases q2 : p.fr = q.fr <;> by_cases q3 : p.tt = q.tt <;> simp [q1, q2, q3] at hR ⊢ <;> exact hR
  exact key (fun r => r = _) rfl
theorem Proofs_v (l m : List LaP) (a a2 : Option Addr) (c c2 : Nat) (w : World) (hl : Rd LaP.cs 3 w a l) (hm : Rd LaP.cs 3 w a2 m) (hn : l.length ≤ 9223372036854775807) (hn2 : m.length ≤ 9223372036854775807) :
    Calls Tryz.prog 18 #[.slice a l.length c, .slice a2 m.length c2] w (fun e w' => e = .returned (.bool (decide (l = m))) ∧ Below w.heap.size w w') := by
  refine go_in Tryz.func18 rfl Tryz.ntmps18 [] [] (Mem.start _) ?_
  refine go ?_
  refine go_if (fun h => ?_) (fun h => ?_)
  · refine go ?_
    refine ev1 ?_
    have : ¬ l = m := fun e => h (by rw [e])
    simp [this]
  have hlm : l.length = m.length := by have h9 : (l.length : Int) = m.length := (by simpa using h); omega
  have HLM := hid hlm
  have hle : l.length ≤ m.length := by omega
  clear h hlm
  refine go ?_
  refine go_loop (X := Nat) (fun i => i ≤ l.length ∧ ∀ j, j < i → lx l j = lx m j) (fun i => l.length - i) (fun i => [(5, .int .i64 i)]) (fun _ => []) 0 [0, 1] ⟨Nat.zero_le _, fun j hj => by omega⟩ (by simp [AgreeL, At]) sb (fun i hi => ?_)
  obtain ⟨hi1, hi2⟩ := hi
  refine go ?_
  refine go_if (fun h => ?_) (fun h => ?_)
  · have hil : i < l.length := by omega
    have him : i < m.length := by omega
    refine go ?_
    refine GoL.q ⟨_, Ex.neP (lx l i) (lx m i), ?_⟩
    refine go ?_
    refine go_if (fun h2 => ?_) (fun h2 => ?_)
    · refine go ?_
      refine ev1 ?_
      have : ¬ l = m := fun e => h2 (by rw [e])
      simp [this]
    · have h3 : lx l i = lx m i := by simpa using h2
      have h4 := hid h3
      clear h2 h3
      refine go ?_
      exact go_again (i + 1) ⟨hil, fun j hj => by
        rcases Nat.lt_or_ge j i with h5 | h5
        · exact hi2 j h5
        · obtain rfl : j = i := by omega
          exact h4.out⟩ (by omega) (by simp [AgreeL, At]) sb
  · refine go ?_
    refine ev1 ?_
    have : l = m := lxP_ext HLM.out fun j hj => hi2 j (by omega)
    simp [this]
/-- where the examples' task lies -/
abbrev tskV (q : Nat × Nat × Nat) : Value := .agg #[.slice (some ⟨q.1, 0, none⟩) 2 2, .int .i64 2, .int .i64 1, .slice (some ⟨q.2.1, 0, none⟩) 1 1]
abbrev tskE (op : Int) (q : Nat × Nat × Nat) : List En := [.cells q.1 [.int .i64 op, .int .i64 0, .int .i64 1, .int .i64 1, .int .i64 5, .int .i64 1, .int .i64 0, .int .i64 1], .cells q.2.1 [.slice (some ⟨q.2.2, 0, none⟩) 3 3, .int .i64 10], .cells q.2.2 [.int .i64 0, .int .i64 1, .int .i64 0]]
theorem Task_v (w : World) : Calls Tryz.prog 46 #[] w (Ret tskV (tskE 2) w) := by
  refine go_in Tryz.func46 rfl Tryz.ntmps46 [] [] (Mem.start _) ?_
  refine go ?_
  refine GoL.a (fun b0 => ?_)
  refine go ?_
  refine GoL.as (fun b3 => ?_)
  refine go ?_
  refine GoL.as (fun b4 => ?_)
  refine go ?_
  refine GoL.as (fun b6 => ?_)
  refine go ?_
  refine end_c ?_
  exact fun w' hw => ⟨(b3, b6, b4), rfl, hw.done sb⟩
theorem Product_v (w : World) : Calls Tryz.prog 47 #[] w (Ret tskV (tskE 4) w) := by
  refine go_in Tryz.func47 rfl Tryz.ntmps47 [] [] (Mem.start _) ?_
  refine go ?_
  refine GoL.a (fun b0 => ?_)
  refine go ?_
  refine GoL.c (fun w' hw => Task_v w') (fun q => ?_)
  obtain ⟨q1, q2, q3⟩ := q
  dsimp only [tskV, tskE]
  refine go ?_
  refine GoL.a (fun b1 => ?_)
  refine go ?_
  refine end_c ?_
  exact fun w' hw => ⟨(q1, q2, q3), rfl, hw.done sb⟩
theorem tsk_at {op : Int} {q : Nat × Nat × Nat} {w w0 : World} {H : List En} (h : Mem w0 [] H w) (hs : Sub (tskE op q) H) : (tskL op q.1 q.2.1 q.2.2).At w := by
  have h1 : Mem w0 [] (tskE op q) w := h.sub hs
  refine ⟨Cells.rd (f := LOrd.cs) (m := 4) (fun _ => rfl) (h1.cells pk), Cells.rd (f := PthR.cs) (m := 2) (fun _ => rfl) (h1.cells pk), fun x hx => ?_⟩
  simp only [tskL, List.mem_singleton] at hx
  subst hx
  exact Cells.rd (f := icell) (m := 1) (fun _ => rfl) (h1.cells pk)
theorem tsk_len {op : Int} {q : Nat × Nat × Nat} : (tskL op q.1 q.2.1 q.2.2).Len := ⟨by simp [tskL], by simp [tskL], fun x hx => by simp only [tskL, List.mem_singleton] at hx; subst hx; simp⟩
end

section
set_option linter.all false
set_option pp.maxSteps 100000
set_option maxRecDepth 100000
set_option maxHeartbeats 4000000
open Go.RowKit

theorem xCost (q : Nat × Nat × Nat) (lay : List Int) (al : Option Addr) (cl : Nat) (n e : Int) (hv : costR (tskL 2 q.1 q.2.1 q.2.2) lay = (n, e)) (w w0 : World) (H : List En) (h : Mem w0 [] H w) (hs : Sub (tskE 2 q) H) (hl : Rd icell 1 w al lay) (hll : lay.length ≤ 9223372036854775807 ∧ lay.length ≤ cl) :
    Calls Tryz.prog 13 #[tskV q, .slice al lay.length cl] w (fun e' w' => e' = .returned (.tuple #[.int .i64 n, .int .i64 e]) ∧ Below w.heap.size w w') := by
  have := Cost_v (tskL 2 q.1 q.2.1 q.2.2) lay al cl w tsk_len (tsk_at h hs) hl hll
  rw [hv] at this
  exact this
theorem xBound (op : Int) (q : Nat × Nat × Nat) (l : List LaP) (n : Int) (h0 : chkL (tskL op q.1 q.2.1 q.2.2) = (0, 0, 0)) (h1 : boundL (tskL op q.1 q.2.1 q.2.2) = l) (h2 : boundN (tskL op q.1 q.2.1 q.2.2) = n) (w w0 : World) (H : List En) (h : Mem w0 [] H w) (hs : Sub (tskE op q) H) :
    Calls Tryz.prog 16 #[tskV q] w (Ret (fun r : Option Addr × Nat => .tuple #[.slice r.1 l.length r.2, .int .i64 n, .int .i64 0]) (fun r => [.rd LaP.cs 3 r.1 l]) w) := by
  have := Bound_ok (tskL op q.1 q.2.1 q.2.2) 0 0 w tsk_len (tsk_at h hs) h0
  rw [h1, h2] at this
  exact this
theorem xGood (q : Nat × Nat × Nat) (w w0 : World) (H : List En) (h : Mem w0 [] H w) (hs : Sub (tskE 2 q) H) :
    Calls Tryz.prog 21 #[tskV q] w (Ret (fun g : Nat => .tuple #[.slice (some ⟨g, 0, none⟩) 4 4, .int .i64 0]) (fun g => [.cells g (ic [0, 3, 1, 2])]) w) := by
  have := Good_ok (tskL 2 q.1 q.2.1 q.2.2) 0 0 w tsk_len (tsk_at h hs) (ex_chk _ _ _)
  rw [ex_good] at this
  exact this
theorem xBest (op : Int) (q : Nat × Nat × Nat) (h0 : bestEr (tskL op q.1 q.2.1 q.2.2) = 0) (h1 : bestL (tskL op q.1 q.2.1 q.2.2) = [0, 1, 2, 3]) (w w0 : World) (H : List En) (h : Mem w0 [] H w) (hs : Sub (tskE op q) H) :
    Calls Tryz.prog 24 #[tskV q] w (Ret (fun r : Option Addr × Nat => .tuple #[.slice r.1 ([0, 1, 2, 3] : List Int).length r.2, .int .i64 0]) (fun r => [.rd icell 1 r.1 [0, 1, 2, 3]]) w) := by
  have := Best_ok (tskL op q.1 q.2.1 q.2.2) w tsk_len (tsk_at h hs) h0
  rw [h1] at this
  exact this
theorem xAcc (q : Nat × Nat × Nat) (l : List LaP) (al : Option Addr) (cl : Nat) (n e : Int) (hv : accR (tskL 2 q.1 q.2.1 q.2.2) l = (n, e)) (w w0 : World) (H : List En) (h : Mem w0 [] H w) (hs : Sub (tskE 2 q) H) (hl : Rd LaP.cs 3 w al l) (hll : l.length ≤ 9223372036854775807) :
    Calls Tryz.prog 19 #[tskV q, .slice al l.length cl] w (fun e' w' => e' = .returned (.tuple #[.int .i64 n, .int .i64 e]) ∧ Below w.heap.size w w') := by
  have := Accept_v (tskL 2 q.1 q.2.1 q.2.2) l al cl w tsk_len (tsk_at h hs) hl hll
  rw [hv] at this
  exact this
theorem xLay (q : Nat × Nat × Nat) (al aw : Option Addr) (cl cw : Nat) (w w0 : World) (H : List En) (h : Mem w0 [] H w) (hs : Sub (tskE 2 q) H) (hl : Rd icell 1 w al [0, 3, 1, 2]) (hc : 4 ≤ cl) (hw : Rd icell 1 w aw [5, 7]) :
    Calls Tryz.prog 26 #[tskV q, .slice al ([0, 3, 1, 2] : List Int).length cl, .slice aw ([5, 7] : List Int).length cw] w (Ret (fun g : Nat => .tuple #[.slice (some ⟨g, 0, none⟩) 128 128, .int .i64 0]) (fun g => [.cells g (ic (layW (tskL 2 q.1 q.2.1 q.2.2) [0, 3, 1, 2] [5, 7]))]) w) :=
  Lay_ok (tskL 2 q.1 q.2.1 q.2.2) [0, 3, 1, 2] [5, 7] al aw cl cw w tsk_len (tsk_at h hs) hl ⟨by decide, hc⟩ hw (ex_layF _ _ _)
theorem xInts (l : List Int) (a a2 : Option Addr) (c c2 : Nat) (w : World) (hl : Rd icell 1 w a l) (hm : Rd icell 1 w a2 l) (hn : l.length ≤ 9223372036854775807) :
    Calls Tryz.prog 23 #[.slice a l.length c, .slice a2 l.length c2] w (fun e w' => e = .returned (.bool true) ∧ Below w.heap.size w w') := by
  have := Ints_v l l a a2 c c2 w hl hm hn hn
  rwa [decide_eq_true rfl] at this
theorem xProofs (l : List LaP) (a a2 : Option Addr) (c c2 : Nat) (w : World) (hl : Rd LaP.cs 3 w a l) (hm : Rd LaP.cs 3 w a2 l) (hn : l.length ≤ 9223372036854775807) :
    Calls Tryz.prog 18 #[.slice a l.length c, .slice a2 l.length c2] w (fun e w' => e = .returned (.bool true) ∧ Below w.heap.size w w') := by
  have := Proofs_v l l a a2 c c2 w hl hm hn hn
  rwa [decide_eq_true rfl] at this
theorem awake_v (w : World) : Calls Tryz.prog 15 #[] w (fun e w' => e = .returned (.bool true) ∧ Below w.heap.size w w') := by
  refine go_in Tryz.func15 rfl Tryz.ntmps15 [] [] (Mem.start _) ?_
  refine go ?_
  refine GoL.c (fun w' hw => Task_v w') (fun q1 => ?_)
  refine go ?_
  refine GoL.sl (Ef.lit (f := icell) (m := 1) (e := 3) [0, 3, 2, 1] (fun _ => rfl) rfl) (fun a1 c1 => ?_)
  refine go ?_
  refine GoL.cv (fun w' hw => xCost q1 [0, 3, 2, 1] a1 c1 480 0 (ex_cost _ _ _) w' w _ hw sb (hw.ownRd pk) ⟨by decide, (hw.own (l := [0, 3, 2, 1]) pk).cap⟩) ?_
  refine go ?_
  refine GoL.c (fun w' hw => Product_v w') (fun q2 => ?_)
  refine go ?_
  refine GoL.c (fun w' hw => xBound 4 q2 [⟨0, 0, 6⟩, ⟨0, 2, 5⟩, ⟨0, 2, 3⟩, ⟨0, 3, 5⟩] 480 (ex_chk4 _ _ _) (ex_bound4 _ _ _) (ex_boundN4 _ _ _) w' w _ hw sb) (fun r3 => ?_)
  refine GoL.mem (H' := [.rd LaP.cs 3 r3.1 [⟨0, 0, 6⟩, ⟨0, 2, 5⟩, ⟨0, 2, 3⟩, ⟨0, 3, 5⟩]]) (fun w hw => hw.sub sb) ?_
  refine go ?_
  refine GoL.c (fun w' hw => Task_v w') (fun q4 => ?_)
  refine go ?_
  refine GoL.c (fun w' hw => xGood q4 w' w _ hw sb) (fun g5 => ?_)
  refine GoL.mem (H' := [.cells g5 (ic [0, 3, 1, 2]), .rd LaP.cs 3 r3.1 [⟨0, 0, 6⟩, ⟨0, 2, 5⟩, ⟨0, 2, 3⟩, ⟨0, 3, 5⟩]]) (fun w hw => hw.sub sb) ?_
  refine go ?_
  refine GoL.c (fun w' hw => Task_v w') (fun q6 => ?_)
  refine go ?_
  refine GoL.c (fun w' hw => xBest 2 q6 (ex_bestE _ _ _) (ex_best _ _ _) w' w _ hw sb) (fun r7 => ?_)
  refine GoL.mem (H' := [.rd icell 1 r7.1 [0, 1, 2, 3], .cells g5 (ic [0, 3, 1, 2]), .rd LaP.cs 3 r3.1 [⟨0, 0, 6⟩, ⟨0, 2, 5⟩, ⟨0, 2, 3⟩, ⟨0, 3, 5⟩]]) (fun w hw => hw.sub sb) ?_
  refine go ?_
  refine GoL.c (fun w' hw => Task_v w') (fun q8 => ?_)
  refine go ?_
  refine GoL.sl (Ef.lit (f := LaP.cs) (m := 3) (e := 83) [⟨0, 2, 4⟩] (fun _ => rfl) rfl) (fun a9 c9 => ?_)
  refine go ?_
  refine GoL.cv (fun w' hw => xAcc q8 [⟨0, 2, 4⟩] a9 c9 190 0 (ex_acc1 _ _ _) w' w _ hw sb (hw.ownRd pk) (by decide)) ?_
  refine GoL.mem (H' := [.rd icell 1 r7.1 [0, 1, 2, 3], .cells g5 (ic [0, 3, 1, 2]), .rd LaP.cs 3 r3.1 [⟨0, 0, 6⟩, ⟨0, 2, 5⟩, ⟨0, 2, 3⟩, ⟨0, 3, 5⟩]]) (fun w hw => hw.sub sb) ?_
  refine go ?_
  refine GoL.c (fun w' hw => Task_v w') (fun q10 => ?_)
  refine go ?_
  refine GoL.sl (Ef.lit (f := icell) (m := 1) (e := 3) [0, 3, 1, 2] (fun _ => rfl) rfl) (fun a11 c11 => ?_)
  refine go ?_
  refine GoL.sl (Ef.lit (f := icell) (m := 1) (e := 3) [5, 7] (fun _ => rfl) rfl) (fun a12 c12 => ?_)
  refine go ?_
  refine GoL.c (fun w' hw => xLay q10 a11 a12 c11 c12 w' w _ hw sb (hw.ownRd pk) (hw.own (f := icell) (m := 1) (T := 3) (l := ([0, 3, 1, 2] : List Int)) pk).cap (hw.ownRd pk)) (fun g13 => ?_)
  refine GoL.mem (H' := [.cells g13 (ic (layW (tskL 2 q10.1 q10.2.1 q10.2.2) [0, 3, 1, 2] [5, 7])), .rd icell 1 r7.1 [0, 1, 2, 3], .cells g5 (ic [0, 3, 1, 2]), .rd LaP.cs 3 r3.1 [⟨0, 0, 6⟩, ⟨0, 2, 5⟩, ⟨0, 2, 3⟩, ⟨0, 3, 5⟩]]) (fun w hw => hw.sub sb) ?_
  refine go ?_
  refine GoL.c (fun w' hw => Task_v w') (fun q14 => ?_)
  refine go ?_
  refine GoL.cv (fun w' hw => xCost q14 [] none 0 0 3 (ex_cost0 _ _ _) w' w _ hw sb (.inl rfl) ⟨by decide, Nat.le_refl _⟩) ?_
  refine GoL.mem (H' := [.cells g13 (ic (layW (tskL 2 q10.1 q10.2.1 q10.2.2) [0, 3, 1, 2] [5, 7])), .rd icell 1 r7.1 [0, 1, 2, 3], .cells g5 (ic [0, 3, 1, 2]), .rd LaP.cs 3 r3.1 [⟨0, 0, 6⟩, ⟨0, 2, 5⟩, ⟨0, 2, 3⟩, ⟨0, 3, 5⟩]]) (fun w hw => hw.sub sb) ?_
  refine go ?_
  dsimp only [List.append]
  refine go ?_
  refine GoL.sl (Ef.lit (f := LaP.cs) (m := 3) (e := 83) [⟨0, 0, 6⟩, ⟨0, 2, 5⟩, ⟨0, 2, 3⟩, ⟨0, 3, 5⟩] (fun _ => rfl) rfl) (fun a15 c15 => ?_)
  refine go ?_
  refine GoL.cv (fun w' hw => xProofs [⟨0, 0, 6⟩, ⟨0, 2, 5⟩, ⟨0, 2, 3⟩, ⟨0, 3, 5⟩] r3.1 a15 r3.2 c15 w' (hw.rd pk) (hw.ownRd pk) (by decide)) ?_
  refine go ?_
  refine GoL.sl (Ef.lit (f := icell) (m := 1) (e := 3) [0, 3, 1, 2] (fun _ => rfl) rfl) (fun a16 c16 => ?_)
  refine go ?_
  refine GoL.cv (fun w' hw => xInts [0, 3, 1, 2] (some ⟨g5, 0, none⟩) a16 4 c16 w' (rdC (hw.cells pk)) (hw.ownRd pk) (by decide)) ?_
  refine go ?_
  refine GoL.sl (Ef.lit (f := icell) (m := 1) (e := 3) [0, 1, 2, 3] (fun _ => rfl) rfl) (fun a17 c17 => ?_)
  refine go ?_
  refine GoL.cv (fun w' hw => xInts [0, 1, 2, 3] r7.1 a17 r7.2 c17 w' (hw.rd pk) (hw.ownRd pk) (by decide)) ?_
  refine go ?_
  refine GoL.sl (Ef.lit (f := icell) (m := 1) (e := 3) [4210947, 5, 7, 10518531, 0] (fun _ => rfl) rfl) (fun a18 c18 => ?_)
  refine go ?_
  refine GoL.cv (fun w' hw => xInts [4210947, 5, 7, 10518531, 0] (some ⟨g13, 0, none⟩) a18 128 c18 w' (by rw [← ex_lay q10.1 q10.2.1 q10.2.2]; exact (rdC (hw.cells pk)).take 5) (hw.ownRd pk) (by decide)) ?_
  refine go ?_
  exact ev1 rfl
end

section
set_option linter.all false
set_option pp.maxSteps 100000
set_option maxRecDepth 100000
set_option maxHeartbeats 4000000
open Go.RowKit

theorem costs_walk (t : TD) (lay : List Int) (al : Option Addr) (cl : Nat) (w : World) (hn : t.Len) (hT : t.At w) (hl : Rd icell 1 w al lay) (hll : lay.length ≤ 9223372036854775807 ∧ lay.length ≤ cl) :
    Calls Tryz.prog 3 #[.agg #[.slice t.ao t.os.length t.co, .int .i64 t.data, .int .i64 t.lines, .slice t.ap t.ps.length t.cp], .slice al lay.length cl] w (fun e w' => e = .returned (.bool true) ∧ Below w.heap.size w w') := by
  obtain ⟨⟨p, i, e⟩, hr⟩ : ∃ q : Int × Int × Int, q = chkL t := ⟨_, rfl⟩
  have hR := hid hr
  clear hr
  refine go_in Tryz.func3 rfl Tryz.ntmps3 [] [] (Mem.start _) ?_
  refine go ?_
  refine GoL.a (fun b2 => ?_)
  refine go ?_
  refine GoL.cv (fun w' hw => check_v t p i e w' (hT.old hw) hn hR.out.symm) ?_
  refine go ?_
  refine GoL.cv (fun w' hw => rcheck_v t p i e w' (hT.old hw) hn hR.out.symm) ?_
  refine go ?_
  refine GoL.cv (fun w' hw => Cost_v t lay al cl w' hn (hT.old hw) (hw.old hl) hll) ?_
  refine go ?_
  refine GoL.cv (fun w' hw => rCost_v t lay al cl w' hn (hT.old hw) (hw.old hl) hll) ?_
  refine go ?_
  refine GoL.cv (fun w' hw => awake_v w') ?_
  refine go ?_
  exact ev1 rfl
end

section

open Go.ChangeShapes Go.WideShapes Go.ChangeAt Go.RowKit Go.Deep

section
variable {H : Type} {enc : TypeId × Value → H} {P : Program} {w : World} {spare : Nat → Bool}

/-- a slice whose elements each read as some α with cells f -/
theorem open_rows {α : Type} [Inhabited α] {f : α → List Value} {m : Nat} {t e : TypeId} {ok : α → Prop} {fuel : Nat} {cs : List Value} {x : DataW H × List MemPlace} (ht : P.underlying t = some (.slice e)) (hC : P.cellsOf e = m)
    (hel : ∀ (n : Nat) (cs' : List Value) (z : DataW H × List MemPlace), cs'.length = m → DataW.trod enc P w 0 spare true n e cs' = some z → ∃ y : α, cs' = f y ∧ ok y) (hm : 0 < m) (h : DataW.trod enc P w 0 spare true fuel t cs = some x) (hlt : ∀ p ∈ x.2, p.block < w.heap.size) :
    ∃ a c, ∃ l : List α, cs = [.slice a l.length c] ∧ Rd f m w a l ∧ l.length ≤ maxLen ∧ ∀ y ∈ l, ok y := by
  rcases open_slice ht h with ⟨rfl, _⟩ | ⟨a, len, cap, m', n, D, Pl, rfl, _, hl, hcap, hm', rfl, hi⟩
  · exact ⟨none, 0, [], rfl, .inl rfl, Nat.zero_le _, fun y hy => by cases hy⟩
  · rw [hC] at hi
    have hle : len ≤ m' := by rw [hm']; split <;> omega
    have hex : ∀ i, i < len → ∃ y : α, (∀ j v, (f y)[j]? = some v → w.cell? (a.add (i * m + j)) = some v) ∧ (f y).length = m ∧ ok y := by
      intro i hilt
      obtain ⟨cs', hc, htr⟩ := hi i (by omega)
      obtain ⟨_, hlen, hcell⟩ := World.cells?_some hc
      obtain ⟨y, rfl, hok⟩ := hel n cs' _ hlen htr
      refine ⟨y, fun j v hv => ?_, hlen, hok⟩
      have hj : j < m := by
        rcases Nat.lt_or_ge j m with h | h
        · exact h
        · rw [List.getElem?_eq_none (by omega)] at hv; cases hv
      rw [← Go.Deep.add_add, hcell j hj, hv]
    obtain ⟨g, hg⟩ := choose_lt hex
    refine ⟨some a, cap, (List.range len).map g, by simp, ?_, by simp; omega, fun y hy => ?_⟩
    · by_cases h0 : len = 0
      · subst h0; exact .inl rfl
      · have h00 := hg 0 (by omega)
        obtain ⟨b, off, spot⟩ := a
        have hz : ∃ v, (f (g 0))[0]? = some v := ⟨_, List.getElem?_eq_getElem (by rw [h00.2.1]; exact hm)⟩
        obtain ⟨v0, hv0⟩ := hz
        have hc0 := h00.1 0 v0 hv0
        have hspot : spot = none := by simpa [Addr.add] using World.cell?_spot hc0
        subst hspot
        refine .inr ⟨b, off, rfl, ?_, fun i y hy j v hv => ?_⟩
        · have : MemPlace.cell b off ∈ MemPlace.row ⟨b, off, none⟩ (m' * P.cellsOf e) ++ (List.range m').flatMap Pl := by
            refine List.mem_append_left _ ?_
            have hpos : 0 < m' * P.cellsOf e := Nat.mul_pos (by omega) (by omega)
            simp only [MemPlace.row, List.mem_map, List.mem_range]
            exact ⟨0, hpos, by simp⟩
          exact hlt _ this
        · have hil : i < len := by
            rcases Nat.lt_or_ge i len with h | h
            · exact h
            · rw [List.getElem?_eq_none (by simpa using h)] at hy; cases hy
          rw [List.getElem?_eq_getElem (by simpa using hil)] at hy
          obtain rfl : g i = y := by simpa using hy
          have := (hg i hil).1 j v hv
          rw [Go.WideShapes.add_plain] at this
          rw [Nat.add_assoc]; exact this
    · obtain ⟨i, hi', rfl⟩ := List.mem_map.1 hy
      exact (hg i (by simpa using hi')).2.2
end

/-- THE POST of a law that leaves old memory alone. -/
theorem trodAll_below {H : Type} {enc : TypeId × Value → H} {P : Program} {W W' : World} (hl : laidOutB P = true) (hb : Below W.heap.size W W') {sp : Nat → Bool} : ∀ {ts : List TypeId} {vs : List Value} {ds : List (DataW H)} {ps : List MemPlace},
    (∀ t ∈ ts, P.readableRec t = true ∧ t < P.types.size) → DataW.TrodAll enc P W 0 (fun _ => true) true ts vs ds ps → (∀ p ∈ ps, p.block < W.heap.size) → (∀ p ∈ ps, sp p.block = true) → DataW.TrodAll enc P W' 0 sp true ts vs ds ps
  | [], [], [], _, _, h, _, _ => h
  | _ :: _, _ :: _, _ :: _, _, hT, ⟨p, q, h1, h2, e⟩, hlt, hs => by
    subst e
    refine ⟨p, q, WideElems.Trod_stays hl (hT _ (by simp)).1 (hT _ (by simp)).2 h1 (fun x hx => hb.same (hlt x (by simp [hx]))) (fun x hx => hs x (by simp [hx])), trodAll_below hl hb (fun t ht => hT t (by simp [ht])) h2 (fun x hx => hlt x (by simp [hx])) (fun x hx => hs x (by simp [hx])), rfl⟩

theorem post_law {H : Type} {enc : TypeId × Value → H} {P : Program} {f : Func} {s : ChangeSpec} {apart : Bool} {W W' : World} {args : Array Value} {ds : List (DataW H)} {before : List MemPlace} {tb : TypeId}
    (hl : laidOutB P = true) (hr : ∀ t ∈ f.params.toList, P.readableRec t = true ∧ t < P.types.size) (hres : f.resultTypes = #[tb]) (hbool : P.underlying tb = some .bool)
    (hW : DataW.Whole enc P f.params.toList s.vars apart W args.toList ds [] before) (hvs : s.vars = []) (hfn : s.fn H ds = { results := [.lit (.bool true)], args := ds }) (hb : Below W.heap.size W W') :
    s.post enc P f apart true false false W args (.bool true) W' := by
  have hlt : ∀ p ∈ before, p.block < W.heap.size := fun p hp => hW.lt p hp
  have hfn' : s.fn H (ds ++ []) = { results := [.lit (.bool true)], args := ds } := by rw [List.append_nil]; exact hfn
  have hW0 := hW
  obtain ⟨pa, pv, hA, hV, hps, hz, hn⟩ := hW
  rw [hvs] at hV
  obtain ⟨_, rfl⟩ := trodVars_none hV
  simp only [List.append_nil] at hps
  subst hps
  have hargs : ∀ sp : Nat → Bool, (∀ p ∈ before, sp p.block = true) → DataW.TrodAll enc P W' 0 sp true f.params.toList args.toList ds before := fun sp hsp => trodAll_below hl hb hr hA hlt hsp
  have hresl : ∀ (b : Nat) (sp : Nat → Bool) (hd : Bool), DataW.TrodAll enc P W' b sp hd f.resultTypes.toList ((Value.bool true).resultList f.resultTypes.size) [.lit (.bool true)] [] := by
    intro b sp hd
    rw [hres]
    exact trodAll_mk1 (shut_bool hbool true)
  have hok : ∀ (j : Nat) (t : TypeId) (r : Value), f.resultTypes[j]? = some t → ((Value.bool true).resultList f.resultTypes.size)[j]? = some r → Value.okWide P W' .any 0 t r := ok_one hres rfl (okWide_bool_mk hbool true)
  have hargs' : ∀ sp : Nat → Bool, (∀ p ∈ before, sp p.block = true) → DataW.TrodAll enc P W' 0 sp true f.params.toList args.toList (s.fn H (ds ++ [])).args before := by rw [hfn']; exact hargs
  have hresl' : ∀ (b : Nat) (sp : Nat → Bool) (hd : Bool), DataW.TrodAll enc P W' b sp hd f.resultTypes.toList ((Value.bool true).resultList f.resultTypes.size) (s.fn H (ds ++ [])).results [] := by rw [hfn']; exact hresl
  have hvars' : ∀ sp : Nat → Bool, DataW.TrodVars enc P W' sp s.vars (s.fn H (ds ++ [])).vars [] := by rw [hfn', hvs]; exact fun _ => rfl
  refine ⟨ds, [], before, [], before, [], hW0, hresl' _ _ _, hargs' _ (fun p hp => by simpa using hlt p hp), hvars' _, World.keptBut_mono (fun p hp => ⟨hp, by simpa using hp⟩) (hb.frame (· ∈ before)), fun _ => ?_⟩
  · refine ⟨hok, _, _, ([] ++ before) ++ [], ⟨[] ++ before, [], trodAll_append (hargs' _ (fun _ _ => rfl)) (hresl' _ _ _), hvars' _, rfl, ?_, ?_⟩, ?_⟩
    · intro b off hp
      have hin : MemPlace.cell b off ∈ before := by simpa using hp
      rw [hb.frozen (hlt _ hin)]
      exact hz b off hin
    · intro ha
      have := hn ha
      simpa using this
    · intro p hp _
      simpa using hp

/- this program -/
theorem own : ownKnob Tryz.prog.godebug = none := by kernel_rfl
theorem laidOut : laidOutB Tryz.prog = true := by kernel_rfl
end

section
set_option linter.all false
open Go.ChangeShapes Go.WideShapes Go.ChangeAt Go.RowKit Go.Deep

section
variable {H : Type} {P : Program} {enc : TypeId × Value → H} {w : World} {spare : Nat → Bool} {n : Nat}
theorem open_rows4 {α : Type} [Inhabited α] {f : α → List Value} {m : Nat} {t e : TypeId} {ok : α → Prop} {fuel : Nat} {cs : List Value} {x : DataW H × List MemPlace} (ht : P.underlying t = some (.slice e)) (hC : P.cellsOf e = m)
    (hel : ∀ (n : Nat) (cs' : List Value) (z : DataW H × List MemPlace), cs'.length = m → DataW.trod enc P w 0 spare true n e cs' = some z → (∀ p ∈ z.2, p.block < w.heap.size) → ∃ y : α, cs' = f y ∧ ok y) (hm : 0 < m) (h : DataW.trod enc P w 0 spare true fuel t cs = some x) (hlt : ∀ p ∈ x.2, p.block < w.heap.size) :
    ∃ a c, ∃ l : List α, cs = [.slice a l.length c] ∧ Rd f m w a l ∧ l.length ≤ maxLen ∧ l.length ≤ c ∧ ∀ y ∈ l, ok y := by
  rcases open_slice ht h with ⟨rfl, _⟩ | ⟨a, len, cap, m', n, D, Pl, rfl, _, hl, hcap, hm', rfl, hi⟩
  · exact ⟨none, 0, [], rfl, .inl rfl, Nat.zero_le _, Nat.le_refl _, fun y hy => by cases hy⟩
  · rw [hC] at hi
    have hle : len ≤ m' := by rw [hm']; split <;> omega
    have hex : ∀ i, i < len → ∃ y : α, (∀ j v, (f y)[j]? = some v → w.cell? (a.add (i * m + j)) = some v) ∧ (f y).length = m ∧ ok y := by
      intro i hilt; obtain ⟨cs', hc, htr⟩ := hi i (by omega); obtain ⟨_, hlen, hcell⟩ := World.cells?_some hc; obtain ⟨y, rfl, hok⟩ := hel n cs' _ hlen htr (fun p hp => hlt p (List.mem_append_right _ (List.mem_flatMap.2 ⟨i, List.mem_range.2 (by omega), hp⟩))); refine ⟨y, fun j v hv => ?_, hlen, hok⟩
      have hj : j < m := by
        rcases Nat.lt_or_ge j m with h | h
        · exact h
        · rw [List.getElem?_eq_none (by omega)] at hv; cases hv
      rw [← Go.Deep.add_add, hcell j hj, hv]
    obtain ⟨g, hg⟩ := choose_lt hex; refine ⟨some a, cap, (List.range len).map g, by simp, ?_, by simp; omega, by simp; omega, fun y hy => ?_⟩
    · by_cases h0 : len = 0
      · subst h0; exact .inl rfl
      · have h00 := hg 0 (by omega)
        obtain ⟨b, off, spot⟩ := a; have hz : ∃ v, (f (g 0))[0]? = some v := ⟨_, List.getElem?_eq_getElem (by rw [h00.2.1]; exact hm)⟩; obtain ⟨v0, hv0⟩ := hz; have hc0 := h00.1 0 v0 hv0
        have hspot : spot = none := by simpa [Addr.add] using World.cell?_spot hc0
        subst hspot; refine .inr ⟨b, off, rfl, ?_, fun i y hy j v hv => ?_⟩
        · have : MemPlace.cell b off ∈ MemPlace.row ⟨b, off, none⟩ (m' * P.cellsOf e) ++ (List.range m').flatMap Pl := by
            refine List.mem_append_left _ ?_; have hpos : 0 < m' * P.cellsOf e := Nat.mul_pos (by omega) (by omega)
            simp only [MemPlace.row, List.mem_map, List.mem_range]
            exact ⟨0, hpos, by simp⟩
          exact hlt _ this
        · have hil : i < len := by
            rcases Nat.lt_or_ge i len with h | h
            · exact h
            · rw [List.getElem?_eq_none (by simpa using h)] at hy; cases hy
          rw [List.getElem?_eq_getElem (by simpa using hil)] at hy
          obtain rfl : g i = y := by simpa using hy
          have := (hg i hil).1 j v hv; rw [Go.WideShapes.add_plain] at this; rw [Nat.add_assoc]; exact this
    · obtain ⟨i, hi', rfl⟩ := List.mem_map.1 hy
      exact (hg i (by simpa using hi')).2.2

end
section
variable {H : Type} {enc : TypeId × Value → H} {w : World} {spare : Nat → Bool} {n : Nat}
theorem fld_int {i : Nat} {xs : List (DataW H × List MemPlace)} {l : List Value} (hf : DataW.trod enc Tryz.prog w 0 spare true n 3 l = xs[i]?) (hi : i < xs.length) : ∃ k, l = [.int .i64 k] ∧ (-9223372036854775808 ≤ k ∧ k ≤ 9223372036854775807) := by
  rw [List.getElem?_eq_getElem hi] at hf; obtain ⟨k, hk, _, hw⟩ := DataW.trod_int Tryz.underlying3 hf; exact ⟨k, hk, bounds_i64 hw⟩
theorem okWide_array {P : Program} {w : World} {r : Reach} {base n : Nat} {t e : TypeId} {v : Value} (ht : P.underlying t = some (.array n e)) (h : Value.okWide P w r base t v) : ∃ cs, v = .agg cs ∧ cs.size = P.cellsOf t := by
  simp only [Value.okWide, ht] at h
  obtain ⟨cs, h1, h2, _⟩ := h; exact ⟨cs, h1, h2⟩
theorem fld_u8 {i : Nat} {xs : List (DataW H × List MemPlace)} {l : List Value} (hf : DataW.trod enc Tryz.prog w 0 spare true n 5 l = xs[i]?) (hi : i < xs.length) : ∃ k, l = [.int .u8 k] ∧ (0 ≤ k ∧ k ≤ 255) := by
  rw [List.getElem?_eq_getElem hi] at hf; obtain ⟨k, hk, _, hw⟩ := DataW.trod_int Tryz.underlying5 hf; exact ⟨k, hk, bounds_u8 hw⟩
set_option maxRecDepth 100000 in
theorem open_ord1 {cs : List Value} {x : DataW H × List MemPlace} (h : DataW.trod enc Tryz.prog w 0 spare true n 71 cs = some x) : ∃ s : LOrd, cs = LOrd.cs s := by
  obtain ⟨xs, n', _, _, hlen, hx, hf⟩ := DataW.trod_struct Tryz.underlying71 h; have hl : cs.length = 4 := hlen.trans (by kernel_rfl); have hxl : xs.length = 4 := hx.trans (by rfl)
  match cs, hl with
  | [c0, c1, c2, c3], _ =>
    obtain ⟨x0, h0, b0⟩ := fld_int (hf 0 _ rfl) (by omega); obtain ⟨x1, h1, b1⟩ := fld_int (hf 1 _ rfl) (by omega); obtain ⟨x2, h2, b2⟩ := fld_int (hf 2 _ rfl) (by omega); obtain ⟨x3, h3, b3⟩ := fld_int (hf 3 _ rfl) (by omega); refine ⟨⟨x0, x1, x2, x3⟩, ?_⟩
    have ec : Tryz.prog.cellsOf 3 = 1 := by kernel_rfl
    simp [ec] at h0 h1 h2 h3
    subst h0 h1 h2 h3; rfl
set_option maxRecDepth 100000 in
theorem open_int0 {fuel : Nat} {cs : List Value} {x : DataW H × List MemPlace} (h : DataW.trod enc Tryz.prog w 0 spare true fuel 26 cs = some x) (hlt : ∀ p ∈ x.2, p.block < w.heap.size) :
    ∃ a c, ∃ l : List Int, cs = [.slice a l.length c] ∧ Rd icell 1 w a l ∧ l.length ≤ 9223372036854775807 ∧ l.length ≤ c := by
  obtain ⟨a, c, l, hj, rj, nj, cj, _⟩ := open_rows4 (f := icell) (m := 1) (ok := fun _ : Int => True) Tryz.underlying26 (by kernel_rfl) (fun n cs' z _ hz _ => by obtain ⟨k, hk, _⟩ := DataW.trod_int Tryz.underlying3 hz; exact ⟨k, hk, trivial⟩) (by decide) h hlt; exact ⟨a, c, l, hj, rj, nj, cj⟩
/-- a path that an argument holds -/
def PthOk (w : World) (y : PthR) : Prop := Rd icell 1 w y.a y.os ∧ y.os.length ≤ 9223372036854775807 ∧ y.os.length ≤ y.c
set_option maxRecDepth 100000 in
theorem open_pth1 {cs : List Value} {x : DataW H × List MemPlace} (h : DataW.trod enc Tryz.prog w 0 spare true n 65 cs = some x) (hlt : ∀ q ∈ x.2, q.block < w.heap.size) : ∃ y : PthR, cs = y.cs ∧ PthOk w y := by
  obtain ⟨xs, n', _, hxe, hlen, hx, hf⟩ := DataW.trod_struct Tryz.underlying65 h; have hl : cs.length = 2 := hlen.trans (by kernel_rfl); have hxl : xs.length = 2 := hx.trans (by rfl)
  have ec : Tryz.prog.cellsOf 3 = 1 := by kernel_rfl
  have et : Tryz.prog.cellsOf 26 = 1 := by kernel_rfl
  match cs, hl, xs, hxl with
  | [c0, c1], _, [x0, x1], _ =>
    have h0 := hf 0 _ rfl
    obtain ⟨i1, g1, _⟩ := fld_int (hf 1 _ rfl) (by simp)
    simp [ec, et] at h0 g1
    obtain ⟨a0, d0, l0, j0, r0, n0, m0⟩ := open_int0 h0 (fun q hq => hlt q (by rw [hxe]; simp [hq]))
    simp at j0
    subst j0 g1; exact ⟨⟨l0, i1, a0, d0⟩, rfl, r0, n0, m0⟩
set_option maxRecDepth 100000 in
theorem open_task {base : Nat} {v : Value} {d : DataW H} {p : List MemPlace} (hv : Value.okWide Tryz.prog w .any base 25 v) (h : DataW.Trod enc Tryz.prog w 0 spare true 25 v d p) (hlt : ∀ x ∈ p, x.block < w.heap.size) :
    ∃ t : TD, v = .agg #[.slice t.ao t.os.length t.co, .int .i64 t.data, .int .i64 t.lines, .slice t.ap t.ps.length t.cp] ∧ t.At w ∧ t.Len ∧ t.os.length ≤ t.co ∧ t.ps.length ≤ t.cp := by
  obtain ⟨cs0, rfl, hsz⟩ := okWide_struct Tryz.underlying25 hv; obtain ⟨fuel, hf0⟩ := h; have e : Value.cells (.agg cs0) = cs0 := rfl; rw [e] at hf0; obtain ⟨xs, n', _, hxe, hlen, hx, hf⟩ := DataW.trod_struct Tryz.underlying25 hf0; have hl : cs0.toList.length = 4 := hlen.trans (by kernel_rfl); have hxl : xs.length = 4 := hx.trans (by rfl)
  have ec : Tryz.prog.cellsOf 3 = 1 := by kernel_rfl
  have eo : Tryz.prog.cellsOf 22 = 1 := by kernel_rfl
  have ep : Tryz.prog.cellsOf 23 = 1 := by kernel_rfl
  obtain ⟨cs0⟩ := cs0
  match cs0, hl, xs, hxl with
  | [c0, c1, c2, c3], _, [x0, x1, x2, x3], _ =>
    have h0 := hf 0 _ rfl; have h3 := hf 3 _ rfl; have hp := congrArg Prod.snd hxe
    simp only at hp
    obtain ⟨i1, g1, _⟩ := fld_int (hf 1 _ rfl) (by simp); obtain ⟨i2, g2, _⟩ := fld_int (hf 2 _ rfl) (by simp)
    simp [ec, eo, ep] at h0 h3 g1 g2
    obtain ⟨a0, d0, l0, j0, r0, n0, m0, _⟩ := open_rows4 (f := LOrd.cs) (m := 4) (ok := fun _ : LOrd => True) Tryz.underlying22 (by kernel_rfl) (fun n cs' z _ hz _ => (open_ord1 hz).imp fun _ e => ⟨e, trivial⟩) (by decide) h0 (fun q hq => hlt q (by rw [hp]; simp [hq]))
    obtain ⟨a3, d3, l3, j3, r3, n3, m3, k3⟩ := open_rows4 (f := PthR.cs) (m := 2) (ok := PthOk w) Tryz.underlying23 (by kernel_rfl) (fun n cs' z _ hz hlt' => open_pth1 hz hlt') (by decide) h3 (fun q hq => hlt q (by rw [hp]; simp [hq]))
    simp at j0 j3
    subst j0 j3 g1 g2
    unfold maxLen at n0 n3
    exact ⟨⟨l0, i1, i2, l3, a0, d0, a3, d3⟩, rfl, ⟨r0, r3, fun y hy => (k3 y hy).1⟩, ⟨by show l0.length ≤ _; omega, by show l3.length ≤ _; omega, fun y hy => (k3 y hy).2⟩, m0, m3⟩
set_option maxRecDepth 100000 in
theorem open_ints {base : Nat} {v : Value} {d : DataW H} {p : List MemPlace} (hv : Value.okWide Tryz.prog w .any base 26 v) (h : DataW.Trod enc Tryz.prog w 0 spare true 26 v d p) (hlt : ∀ x ∈ p, x.block < w.heap.size) :
    ∃ (l : List Int) (a : Option Addr) (c : Nat), v = .slice a l.length c ∧ Rd icell 1 w a l ∧ l.length ≤ 9223372036854775807 ∧ l.length ≤ c := by
  obtain ⟨a0, len, cap, rfl⟩ := okWide_slice Tryz.underlying26 hv; obtain ⟨fuel, hf0⟩ := h; obtain ⟨a, c, l, hj, rj, nj, cj⟩ := open_int0 hf0 (fun q hq => hlt q hq)
  simp [Value.cells] at hj
  obtain ⟨rfl, rfl, rfl⟩ := hj; exact ⟨l, a0, cap, rfl, rj, nj, cj⟩
end
end


end Go.Proofs.YtigehmghcafblaaGreat
