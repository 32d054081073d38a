/- LayoutBest, LayoutLines, LayoutGood: plain. -/
import Derived.Test.YtigehmghcafblaalaW36
import Derived.Test.YtigehmghcafblaalaB4
import Derived.Test.YtigehmghcafblaalaW29
import Derived.Test.YtigehmghcafblaalaG6
import Derived.Deep.Slices
import Derived.Deep.Fields
import Derived.ProofKit
import Derived.OpenShut
import Derived.Carry
import Derived.ChangeSame
import Derived.ReadAgain
set_option linter.all false
namespace Go.Proofs.Ytigehmghcafblaa

section
set_option linter.all false
set_option pp.maxSteps 100000
set_option maxRecDepth 100000
set_option maxHeartbeats 4000000
open Go.RowKit

theorem Ints_v (l m : List Int) (a a2 : Option Addr) (c c2 : Nat) (w : World) (hl : Rd icell 1 w a l) (hm : Rd icell 1 w a2 m) (hn : l.length ≤ 9223372036854775807) (hn2 : m.length ≤ 9223372036854775807) :
    Calls Try.prog 15 #[.slice a l.length c, .slice a2 m.length c2] w (fun e w' => e = .returned (.bool (decide (l = m))) ∧ Below w.heap.size w w') := by
  refine go_in Try.func15 rfl Try.ntmps15 [] [] (Mem.start _) ?_
  refine go ?_
  refine go_if (fun h => ?_) (fun h => ?_)
  · refine go ?_
    refine ev1 ?_
    have : ¬ l = m := fun e => h (by rw [e])
    simp [this]
  have hlm : l.length = m.length := by have h9 : (l.length : Int) = m.length := (by simpa using h); omega
  have HLM := hid hlm
  have hle : l.length ≤ m.length := by omega
  clear h hlm
  refine go ?_
  refine go_loop (X := Nat) (fun i => i ≤ l.length ∧ ∀ j, j < i → lx l j = lx m j) (fun i => l.length - i) (fun i => [(5, .int .i64 i)]) (fun _ => []) 0 [0, 1] ⟨Nat.zero_le _, fun j hj => by omega⟩ (by simp [AgreeL, At]) sb (fun i hi => ?_)
  obtain ⟨hi1, hi2⟩ := hi
  refine go ?_
  refine go_if (fun h => ?_) (fun h => ?_)
  · have hil : i < l.length := by omega
    have him : i < m.length := by omega
    refine go ?_
    refine go_if (fun h2 => ?_) (fun h2 => ?_)
    · refine go ?_
      refine ev1 ?_
      have : ¬ l = m := fun e => h2 (by rw [e])
      simp [this]
    · have h3 : lx l i = lx m i := by simpa using h2
      have h4 := hid h3
      clear h2 h3
      refine go ?_
      exact go_again (i + 1) ⟨hil, fun j hj => by
        rcases Nat.lt_or_ge j i with h5 | h5
        · exact hi2 j h5
        · obtain rfl : j = i := by omega
          exact h4.out⟩ (by omega) (by simp [AgreeL, At]) sb
  · refine go ?_
    refine ev1 ?_
    have : l = m := lx_ext HLM.out fun j hj => hi2 j (by omega)
    simp [this]
theorem lxP_ext {l m : List LaP} (hl : l.length = m.length) (h : ∀ i, i < l.length → lx l i = lx m i) : l = m := by
  apply List.ext_getElem hl
  intro i h1 h2
  have := h i h1
  rwa [lx_eq h1, lx_eq h2] at this
theorem Ex.neP {w0 : World} {Bs : List Nat} {n : Nat} {L : List (Nat × Value)} {H : List En} {d : Nat} {ty : TypeId} {pos : String} {af : Array Edge} {gd : Option (Nat × Bool)} {x y : Operand} (p q : LaP)
    (hx : ∀ g, evF n (tab L g) x = .agg #[.int .i64 p.path, .int .i64 p.fr, .int .i64 p.tt] := by intro g; simp only [evF_tmp, tab_cons, Nat.reduceLT, Nat.reduceEqDiff, ↓reduceIte]; (try rfl)) (hy : ∀ g, evF n (tab L g) y = .agg #[.int .i64 q.path, .int .i64 q.fr, .int .i64 q.tt] := by intro g; simp only [evF_tmp, tab_cons, Nat.reduceLT, Nat.reduceEqDiff, ↓reduceIte]; (try rfl)) :
    Ex w0 Bs Try.prog n ⟨some d, .binOp .neq 38 x y 38, ty, pos, af, gd⟩ L H (.bool (decide (¬ p = q))) := fun g w _ => by
  have key : ∀ R : Result Next → Prop, R (.ok (.value (.bool (decide (¬ p = q)))) w) → R ((execOp (evF n (tab L g)) ⟨some d, .binOp .neq 38 x y 38, ty, pos, af, gd⟩).run Try.prog w) := by
    intro R hR
    have e : decide (¬ p = q) = decide (¬ (p.path = q.path ∧ p.fr = q.fr ∧ p.tt = q.tt)) := by
      rw [decide_eq_decide]; obtain ⟨a, b, c⟩ := p; obtain ⟨a', b', c'⟩ := q; simp
    rw [e] at hR
    have h1 := hx g
    have h2 := hy g
    go_simp
    by_cases q1 : p.path = q.path <;> by_cases q2 : p.fr = q.fr <;> by_cases q3 : p.tt = q.tt <;> simp [q1, q2, q3] at hR ⊢ <;> exact hR
  exact key (fun r => r = _) rfl
theorem Proofs_v (l m : List LaP) (a a2 : Option Addr) (c c2 : Nat) (w : World) (hl : Rd LaP.cs 3 w a l) (hm : Rd LaP.cs 3 w a2 m) (hn : l.length ≤ 9223372036854775807) (hn2 : m.length ≤ 9223372036854775807) :
    Calls Try.prog 14 #[.slice a l.length c, .slice a2 m.length c2] w (fun e w' => e = .returned (.bool (decide (l = m))) ∧ Below w.heap.size w w') := by
  refine go_in Try.func14 rfl Try.ntmps14 [] [] (Mem.start _) ?_
  refine go ?_
  refine go_if (fun h => ?_) (fun h => ?_)
  · refine go ?_
    refine ev1 ?_
    have : ¬ l = m := fun e => h (by rw [e])
    simp [this]
  have hlm : l.length = m.length := by have h9 : (l.length : Int) = m.length := (by simpa using h); omega
  have HLM := hid hlm
  have hle : l.length ≤ m.length := by omega
  clear h hlm
  refine go ?_
  refine go_loop (X := Nat) (fun i => i ≤ l.length ∧ ∀ j, j < i → lx l j = lx m j) (fun i => l.length - i) (fun i => [(5, .int .i64 i)]) (fun _ => []) 0 [0, 1] ⟨Nat.zero_le _, fun j hj => by omega⟩ (by simp [AgreeL, At]) sb (fun i hi => ?_)
  obtain ⟨hi1, hi2⟩ := hi
  refine go ?_
  refine go_if (fun h => ?_) (fun h => ?_)
  · have hil : i < l.length := by omega
    have him : i < m.length := by omega
    refine go ?_
    refine GoL.q ⟨_, Ex.neP (lx l i) (lx m i), ?_⟩
    refine go ?_
    refine go_if (fun h2 => ?_) (fun h2 => ?_)
    · refine go ?_
      refine ev1 ?_
      have : ¬ l = m := fun e => h2 (by rw [e])
      simp [this]
    · have h3 : lx l i = lx m i := by simpa using h2
      have h4 := hid h3
      clear h2 h3
      refine go ?_
      exact go_again (i + 1) ⟨hil, fun j hj => by
        rcases Nat.lt_or_ge j i with h5 | h5
        · exact hi2 j h5
        · obtain rfl : j = i := by omega
          exact h4.out⟩ (by omega) (by simp [AgreeL, At]) sb
  · refine go ?_
    refine ev1 ?_
    have : l = m := lxP_ext HLM.out fun j hj => hi2 j (by omega)
    simp [this]
/-- where the examples' task lies -/
abbrev tskV (q : Nat × Nat × Nat) : Value := .agg #[.slice (some ⟨q.1, 0, none⟩) 2 2, .int .i64 2, .int .i64 1, .slice (some ⟨q.2.1, 0, none⟩) 1 1]
abbrev tskE (op : Int) (q : Nat × Nat × Nat) : List En := [.cells q.1 [.int .i64 op, .int .i64 0, .int .i64 1, .int .i64 1, .int .i64 5, .int .i64 1, .int .i64 0, .int .i64 1], .cells q.2.1 [.slice (some ⟨q.2.2, 0, none⟩) 3 3, .int .i64 10], .cells q.2.2 [.int .i64 0, .int .i64 1, .int .i64 0]]
theorem Task_v (w : World) : Calls Try.prog 9 #[] w (Ret tskV (tskE 2) w) := by
  refine go_in Try.func9 rfl Try.ntmps9 [] [] (Mem.start _) ?_
  refine go ?_
  refine GoL.a (fun b0 => ?_)
  refine go ?_
  refine GoL.as (fun b3 => ?_)
  refine go ?_
  refine GoL.as (fun b4 => ?_)
  refine go ?_
  refine GoL.as (fun b6 => ?_)
  refine go ?_
  refine end_c ?_
  exact fun w' hw => ⟨(b3, b6, b4), rfl, hw.done sb⟩
theorem Product_v (w : World) : Calls Try.prog 12 #[] w (Ret tskV (tskE 4) w) := by
  refine go_in Try.func12 rfl Try.ntmps12 [] [] (Mem.start _) ?_
  refine go ?_
  refine GoL.a (fun b0 => ?_)
  refine go ?_
  refine GoL.c (fun w' hw => Task_v w') (fun q => ?_)
  obtain ⟨q1, q2, q3⟩ := q
  dsimp only [tskV, tskE]
  refine go ?_
  refine GoL.a (fun b1 => ?_)
  refine go ?_
  refine end_c ?_
  exact fun w' hw => ⟨(q1, q2, q3), rfl, hw.done sb⟩
theorem tsk_at {op : Int} {q : Nat × Nat × Nat} {w w0 : World} {H : List En} (h : Mem w0 [] H w) (hs : Sub (tskE op q) H) : (tskL op q.1 q.2.1 q.2.2).At w := by
  have h1 : Mem w0 [] (tskE op q) w := h.sub hs
  refine ⟨Cells.rd (f := LOrd.cs) (m := 4) (fun _ => rfl) (h1.cells pk), Cells.rd (f := PthR.cs) (m := 2) (fun _ => rfl) (h1.cells pk), fun x hx => ?_⟩
  simp only [tskL, List.mem_singleton] at hx
  subst hx
  exact Cells.rd (f := icell) (m := 1) (fun _ => rfl) (h1.cells pk)
theorem tsk_len {op : Int} {q : Nat × Nat × Nat} : (tskL op q.1 q.2.1 q.2.2).Len := ⟨by simp [tskL], by simp [tskL], fun x hx => by simp only [tskL, List.mem_singleton] at hx; subst hx; simp⟩
end

section
set_option linter.all false
set_option pp.maxSteps 100000
set_option maxRecDepth 100000
set_option maxHeartbeats 4000000
open Go.RowKit

theorem xCost (q : Nat × Nat × Nat) (lay : List Int) (al : Option Addr) (cl : Nat) (n e : Int) (hv : costR (tskL 2 q.1 q.2.1 q.2.2) lay = (n, e)) (w w0 : World) (H : List En) (h : Mem w0 [] H w) (hs : Sub (tskE 2 q) H) (hl : Rd icell 1 w al lay) (hll : lay.length ≤ 9223372036854775807 ∧ lay.length ≤ cl) :
    Calls Try.prog 8 #[tskV q, .slice al lay.length cl] w (fun e' w' => e' = .returned (.tuple #[.int .i64 n, .int .i64 e]) ∧ Below w.heap.size w w') := by
  have := Cost_v (tskL 2 q.1 q.2.1 q.2.2) lay al cl w tsk_len (tsk_at h hs) hl hll
  rw [hv] at this
  exact this
theorem xBound (op : Int) (q : Nat × Nat × Nat) (l : List LaP) (n : Int) (h0 : chkL (tskL op q.1 q.2.1 q.2.2) = (0, 0, 0)) (h1 : boundL (tskL op q.1 q.2.1 q.2.2) = l) (h2 : boundN (tskL op q.1 q.2.1 q.2.2) = n) (w w0 : World) (H : List En) (h : Mem w0 [] H w) (hs : Sub (tskE op q) H) :
    Calls Try.prog 10 #[tskV q] w (Ret (fun r : Option Addr × Nat => .tuple #[.slice r.1 l.length r.2, .int .i64 n, .int .i64 0]) (fun r => [.rd LaP.cs 3 r.1 l]) w) := by
  have := Bound_ok (tskL op q.1 q.2.1 q.2.2) 0 0 w tsk_len (tsk_at h hs) h0
  rw [h1, h2] at this
  exact this
theorem xGood (q : Nat × Nat × Nat) (w w0 : World) (H : List En) (h : Mem w0 [] H w) (hs : Sub (tskE 2 q) H) :
    Calls Try.prog 17 #[tskV q] w (Ret (fun g : Nat => .tuple #[.slice (some ⟨g, 0, none⟩) 4 4, .int .i64 0]) (fun g => [.cells g (ic [0, 3, 1, 2])]) w) := by
  have := Good_ok (tskL 2 q.1 q.2.1 q.2.2) 0 0 w tsk_len (tsk_at h hs) (ex_chk _ _ _)
  rw [ex_good] at this
  exact this
theorem xBest (op : Int) (q : Nat × Nat × Nat) (h0 : bestEr (tskL op q.1 q.2.1 q.2.2) = 0) (h1 : bestL (tskL op q.1 q.2.1 q.2.2) = [0, 1, 2, 3]) (w w0 : World) (H : List En) (h : Mem w0 [] H w) (hs : Sub (tskE op q) H) :
    Calls Try.prog 11 #[tskV q] w (Ret (fun r : Option Addr × Nat => .tuple #[.slice r.1 ([0, 1, 2, 3] : List Int).length r.2, .int .i64 0]) (fun r => [.rd icell 1 r.1 [0, 1, 2, 3]]) w) := by
  have := Best_ok (tskL op q.1 q.2.1 q.2.2) w tsk_len (tsk_at h hs) h0
  rw [h1] at this
  exact this
theorem xAcc (q : Nat × Nat × Nat) (l : List LaP) (al : Option Addr) (cl : Nat) (n e : Int) (hv : accR (tskL 2 q.1 q.2.1 q.2.2) l = (n, e)) (w w0 : World) (H : List En) (h : Mem w0 [] H w) (hs : Sub (tskE 2 q) H) (hl : Rd LaP.cs 3 w al l) (hll : l.length ≤ 9223372036854775807) :
    Calls Try.prog 13 #[tskV q, .slice al l.length cl] w (fun e' w' => e' = .returned (.tuple #[.int .i64 n, .int .i64 e]) ∧ Below w.heap.size w w') := by
  have := Accept_v (tskL 2 q.1 q.2.1 q.2.2) l al cl w tsk_len (tsk_at h hs) hl hll
  rw [hv] at this
  exact this
theorem xLay (q : Nat × Nat × Nat) (al aw : Option Addr) (cl cw : Nat) (w w0 : World) (H : List En) (h : Mem w0 [] H w) (hs : Sub (tskE 2 q) H) (hl : Rd icell 1 w al [0, 3, 1, 2]) (hc : 4 ≤ cl) (hw : Rd icell 1 w aw [5, 7]) :
    Calls Try.prog 35 #[tskV q, .slice al ([0, 3, 1, 2] : List Int).length cl, .slice aw ([5, 7] : List Int).length cw] w (Ret (fun g : Nat => .tuple #[.slice (some ⟨g, 0, none⟩) 128 128, .int .i64 0]) (fun g => [.cells g (ic (layW (tskL 2 q.1 q.2.1 q.2.2) [0, 3, 1, 2] [5, 7]))]) w) :=
  Lay_ok (tskL 2 q.1 q.2.1 q.2.2) [0, 3, 1, 2] [5, 7] al aw cl cw w tsk_len (tsk_at h hs) hl ⟨by decide, hc⟩ hw (ex_layF _ _ _)
theorem xInts (l : List Int) (a a2 : Option Addr) (c c2 : Nat) (w : World) (hl : Rd icell 1 w a l) (hm : Rd icell 1 w a2 l) (hn : l.length ≤ 9223372036854775807) :
    Calls Try.prog 15 #[.slice a l.length c, .slice a2 l.length c2] w (fun e w' => e = .returned (.bool true) ∧ Below w.heap.size w w') := by
  have := Ints_v l l a a2 c c2 w hl hm hn hn
  rwa [decide_eq_true rfl] at this
theorem xProofs (l : List LaP) (a a2 : Option Addr) (c c2 : Nat) (w : World) (hl : Rd LaP.cs 3 w a l) (hm : Rd LaP.cs 3 w a2 l) (hn : l.length ≤ 9223372036854775807) :
    Calls Try.prog 14 #[.slice a l.length c, .slice a2 l.length c2] w (fun e w' => e = .returned (.bool true) ∧ Below w.heap.size w w') := by
  have := Proofs_v l l a a2 c c2 w hl hm hn hn
  rwa [decide_eq_true rfl] at this
theorem awake_v (w : World) : Calls Try.prog 16 #[] w (fun e w' => e = .returned (.bool true) ∧ Below w.heap.size w w') := by
  refine go_in Try.func16 rfl Try.ntmps16 [] [] (Mem.start _) ?_
  refine go ?_
  refine GoL.c (fun w' hw => Task_v w') (fun q1 => ?_)
  refine go ?_
  refine GoL.sl (Ef.lit (f := icell) (m := 1) (e := 3) [0, 3, 2, 1] (fun _ => rfl) rfl) (fun a1 c1 => ?_)
  refine go ?_
  refine GoL.cv (fun w' hw => xCost q1 [0, 3, 2, 1] a1 c1 480 0 (ex_cost _ _ _) w' w _ hw sb (hw.ownRd pk) ⟨by decide, (hw.own (l := [0, 3, 2, 1]) pk).cap⟩) ?_
  refine go ?_
  refine GoL.c (fun w' hw => Product_v w') (fun q2 => ?_)
  refine go ?_
  refine GoL.c (fun w' hw => xBound 4 q2 [⟨0, 0, 6⟩, ⟨0, 2, 5⟩, ⟨0, 2, 3⟩, ⟨0, 3, 5⟩] 480 (ex_chk4 _ _ _) (ex_bound4 _ _ _) (ex_boundN4 _ _ _) w' w _ hw sb) (fun r3 => ?_)
  refine GoL.mem (H' := [.rd LaP.cs 3 r3.1 [⟨0, 0, 6⟩, ⟨0, 2, 5⟩, ⟨0, 2, 3⟩, ⟨0, 3, 5⟩]]) (fun w hw => hw.sub sb) ?_
  refine go ?_
  refine GoL.c (fun w' hw => Task_v w') (fun q4 => ?_)
  refine go ?_
  refine GoL.c (fun w' hw => xGood q4 w' w _ hw sb) (fun g5 => ?_)
  refine GoL.mem (H' := [.cells g5 (ic [0, 3, 1, 2]), .rd LaP.cs 3 r3.1 [⟨0, 0, 6⟩, ⟨0, 2, 5⟩, ⟨0, 2, 3⟩, ⟨0, 3, 5⟩]]) (fun w hw => hw.sub sb) ?_
  refine go ?_
  refine GoL.c (fun w' hw => Task_v w') (fun q6 => ?_)
  refine go ?_
  refine GoL.c (fun w' hw => xBest 2 q6 (ex_bestE _ _ _) (ex_best _ _ _) w' w _ hw sb) (fun r7 => ?_)
  refine GoL.mem (H' := [.rd icell 1 r7.1 [0, 1, 2, 3], .cells g5 (ic [0, 3, 1, 2]), .rd LaP.cs 3 r3.1 [⟨0, 0, 6⟩, ⟨0, 2, 5⟩, ⟨0, 2, 3⟩, ⟨0, 3, 5⟩]]) (fun w hw => hw.sub sb) ?_
  refine go ?_
  refine GoL.c (fun w' hw => Task_v w') (fun q8 => ?_)
  refine go ?_
  refine GoL.sl (Ef.lit (f := LaP.cs) (m := 3) (e := 38) [⟨0, 2, 4⟩] (fun _ => rfl) rfl) (fun a9 c9 => ?_)
  refine go ?_
  refine GoL.cv (fun w' hw => xAcc q8 [⟨0, 2, 4⟩] a9 c9 190 0 (ex_acc1 _ _ _) w' w _ hw sb (hw.ownRd pk) (by decide)) ?_
  refine GoL.mem (H' := [.rd icell 1 r7.1 [0, 1, 2, 3], .cells g5 (ic [0, 3, 1, 2]), .rd LaP.cs 3 r3.1 [⟨0, 0, 6⟩, ⟨0, 2, 5⟩, ⟨0, 2, 3⟩, ⟨0, 3, 5⟩]]) (fun w hw => hw.sub sb) ?_
  refine go ?_
  refine GoL.c (fun w' hw => Task_v w') (fun q10 => ?_)
  refine go ?_
  refine GoL.sl (Ef.lit (f := icell) (m := 1) (e := 3) [0, 3, 1, 2] (fun _ => rfl) rfl) (fun a11 c11 => ?_)
  refine go ?_
  refine GoL.sl (Ef.lit (f := icell) (m := 1) (e := 3) [5, 7] (fun _ => rfl) rfl) (fun a12 c12 => ?_)
  refine go ?_
  refine GoL.c (fun w' hw => xLay q10 a11 a12 c11 c12 w' w _ hw sb (hw.ownRd pk) (hw.own (f := icell) (m := 1) (T := 3) (l := ([0, 3, 1, 2] : List Int)) pk).cap (hw.ownRd pk)) (fun g13 => ?_)
  refine GoL.mem (H' := [.cells g13 (ic (layW (tskL 2 q10.1 q10.2.1 q10.2.2) [0, 3, 1, 2] [5, 7])), .rd icell 1 r7.1 [0, 1, 2, 3], .cells g5 (ic [0, 3, 1, 2]), .rd LaP.cs 3 r3.1 [⟨0, 0, 6⟩, ⟨0, 2, 5⟩, ⟨0, 2, 3⟩, ⟨0, 3, 5⟩]]) (fun w hw => hw.sub sb) ?_
  refine go ?_
  refine GoL.c (fun w' hw => Task_v w') (fun q14 => ?_)
  refine go ?_
  refine GoL.cv (fun w' hw => xCost q14 [] none 0 0 3 (ex_cost0 _ _ _) w' w _ hw sb (.inl rfl) ⟨by decide, Nat.le_refl _⟩) ?_
  refine GoL.mem (H' := [.cells g13 (ic (layW (tskL 2 q10.1 q10.2.1 q10.2.2) [0, 3, 1, 2] [5, 7])), .rd icell 1 r7.1 [0, 1, 2, 3], .cells g5 (ic [0, 3, 1, 2]), .rd LaP.cs 3 r3.1 [⟨0, 0, 6⟩, ⟨0, 2, 5⟩, ⟨0, 2, 3⟩, ⟨0, 3, 5⟩]]) (fun w hw => hw.sub sb) ?_
  refine go ?_
  dsimp only [List.append]
  refine go ?_
  refine GoL.sl (Ef.lit (f := LaP.cs) (m := 3) (e := 38) [⟨0, 0, 6⟩, ⟨0, 2, 5⟩, ⟨0, 2, 3⟩, ⟨0, 3, 5⟩] (fun _ => rfl) rfl) (fun a15 c15 => ?_)
  refine go ?_
  refine GoL.cv (fun w' hw => xProofs [⟨0, 0, 6⟩, ⟨0, 2, 5⟩, ⟨0, 2, 3⟩, ⟨0, 3, 5⟩] r3.1 a15 r3.2 c15 w' (hw.rd pk) (hw.ownRd pk) (by decide)) ?_
  refine go ?_
  refine GoL.sl (Ef.lit (f := icell) (m := 1) (e := 3) [0, 3, 1, 2] (fun _ => rfl) rfl) (fun a16 c16 => ?_)
  refine go ?_
  refine GoL.cv (fun w' hw => xInts [0, 3, 1, 2] (some ⟨g5, 0, none⟩) a16 4 c16 w' (rdC (hw.cells pk)) (hw.ownRd pk) (by decide)) ?_
  refine go ?_
  refine GoL.sl (Ef.lit (f := icell) (m := 1) (e := 3) [0, 1, 2, 3] (fun _ => rfl) rfl) (fun a17 c17 => ?_)
  refine go ?_
  refine GoL.cv (fun w' hw => xInts [0, 1, 2, 3] r7.1 a17 r7.2 c17 w' (hw.rd pk) (hw.ownRd pk) (by decide)) ?_
  refine go ?_
  refine GoL.sl (Ef.lit (f := icell) (m := 1) (e := 3) [4210947, 5, 7, 10518531, 0] (fun _ => rfl) rfl) (fun a18 c18 => ?_)
  refine go ?_
  refine GoL.cv (fun w' hw => xInts [4210947, 5, 7, 10518531, 0] (some ⟨g13, 0, none⟩) a18 128 c18 w' (by rw [← ex_lay q10.1 q10.2.1 q10.2.2]; exact (rdC (hw.cells pk)).take 5) (hw.ownRd pk) (by decide)) ?_
  refine go ?_
  exact ev1 rfl
end

section
set_option linter.all false
open Go.RowKit

theorem timeT_turn {lay lay' : List Int} {l : List Evt} {d : Int} (h : ∀ v ∈ l, (lx lay' v.item.toNat - lx lay v.item.toNat - d) % 16 = 0) (hb : beginT lay' l = beginT lay l + d) : ∀ i, i < l.length → timeT lay' l i = timeT lay l i + d
  | 0, _ => hb
  | i + 1, hi => by
    have ih := timeT_turn h hb i (by omega)
    have h1 := h _ (lx_mem hi)
    simp only [timeT, stepT, ih]
    omega
theorem pathT_turn {lay lay' : List Int} {l : List Evt} {s : Int} (h : ∀ v ∈ l, (lx lay' v.item.toNat - lx lay v.item.toNat - s) % 16 = 0) : pathT lay' l = pathT lay l := by
  unfold pathT
  rcases Nat.eq_zero_or_pos l.length with h0 | h0
  · rw [h0]; simp [timeT]
  · have h1 := h _ (lx_mem h0)
    have h2 := timeT_turn (lay := lay) (lay' := lay') (l := l) (d := beginT lay' l - beginT lay l) (fun v hv => by
      have h3 := h v hv
      unfold beginT
      omega) (by omega) (l.length - 1) (by omega)
    omega
theorem costL_turn {t : TD} (ht : t.Ok) {lay lay' : List Int} {s : Int} (h : ∀ k, k < t.os.length + t.data.toNat → (lx lay' k - lx lay k - s) % 16 = 0) : costL t lay' = costL t lay := by
  unfold costL
  have key : ∀ m, m ≤ t.ps.length → costT (fun i => (lx t.ps i).cnt) (fun i => lx (openE t) i) lay' m = costT (fun i => (lx t.ps i).cnt) (fun i => lx (openE t) i) lay m := by
    intro m
    induction m with
    | zero => intro _; rfl
    | succ m ih =>
      intro hm
      simp only [costT]
      rw [ih (by omega)]
      congr 2
      refine pathT_turn (s := s) fun v hv => ?_
      have hp := lx_mem (l := t.ps) (i := m) (by omega)
      rw [openE, lx_map (by omega)] at hv
      have hi := pathE_item ht hp v hv
      exact h _ (by have := ht.d1; omega)
  exact key _ (Nat.le_refl _)
theorem layE_mk {n : Nat} {lines : Int} {lay : List Int} (h1 : lay.length = n) (h2 : ∀ a ∈ lay, 0 ≤ a ∧ a < lines * 16) (h3 : ∀ i j, i < j → j < lay.length → lx lay i ≠ lx lay j) : layE n lines lay = 0 := by
  unfold layE
  rw [if_neg (by omega), firstBad_none]
  intro j hj
  have := h2 _ (lx_mem hj)
  rw [if_neg (by unfold outP; omega), if_neg]
  intro hm
  obtain ⟨i, hi, e⟩ := List.mem_iff_getElem.1 hm
  have hij : i < j := by simp at hi; omega
  rw [List.getElem_take] at e
  exact h3 i j hij hj (by rw [lx_eq (by omega), e])
theorem take_ne {lay : List Int} (h : ∀ i, i < lay.length → lx lay i ∉ lay.take i) {i j : Nat} (hij : i < j) (hj : j < lay.length) : lx lay i ≠ lx lay j := by
  intro e
  refine h j hj ?_
  rw [← e, lx_eq (by omega)]
  exact List.mem_iff_getElem.2 ⟨i, by simp; omega, by simp⟩
/-- an injective change of the addresses -/
theorem layE_map {n : Nat} {lines : Int} {lay : List Int} {g : Int → Int} (h : layE n lines lay = 0) (hg : ∀ a, 0 ≤ a → a < lines * 16 → 0 ≤ g a ∧ g a < lines * 16) (hi : ∀ a b, 0 ≤ a → a < lines * 16 → 0 ≤ b → b < lines * 16 → g a = g b → a = b) : layE n lines (lay.map g) = 0 := by
  obtain ⟨h1, h2, h3⟩ := layE_ok h
  refine layE_mk (by rw [List.length_map, h1]) (fun a ha => ?_) fun i j hij hj => ?_
  · obtain ⟨b, hb, rfl⟩ := List.mem_map.1 ha
    exact hg b (h2 b hb).1 (h2 b hb).2
  · rw [List.length_map] at hj
    rw [lx_map (by omega), lx_map hj]
    intro e
    have b1 := h2 _ (lx_mem (l := lay) (i := i) (by omega))
    have b2 := h2 _ (lx_mem (l := lay) (i := j) hj)
    exact take_ne h3 hij hj (hi _ _ b1.1 b1.2 b2.1 b2.2 e)
def turnA (x a : Int) : Int := a / 16 * 16 + (a + x) % 16
def swapA (p q a : Int) : Int := (if a / 16 = p then q else if a / 16 = q then p else a / 16) * 16 + a % 16
theorem turn_ok {t : TD} {lay : List Int} {x : Int} (h : costR t lay = (costL t lay, 0)) (ht : t.Ok) (hl : layL t lay = 0) : layL t (lay.map (turnA x)) = 0 ∧ costL t (lay.map (turnA x)) = costL t lay := by
  obtain ⟨h1, h2, h3⟩ := layE_ok hl
  refine ⟨layE_map hl (fun a h0 h4 => by unfold turnA; omega) (fun a b a0 a1 b0 b1 e => by unfold turnA at e; omega), costL_turn ht (s := x) fun k hk => ?_⟩
  rw [lx_map (by omega)]
  unfold turnA
  omega
theorem swap_ok {t : TD} {lay : List Int} {p q : Int} (hp : 0 ≤ p ∧ p < t.lines) (hq : 0 ≤ q ∧ q < t.lines) (ht : t.Ok) (hl : layL t lay = 0) : layL t (lay.map (swapA p q)) = 0 ∧ costL t (lay.map (swapA p q)) = costL t lay := by
  obtain ⟨h1, h2, h3⟩ := layE_ok hl
  refine ⟨layE_map hl (fun a h0 h4 => by unfold swapA; split; omega; split <;> omega) (fun a b a0 a1 b0 b1 e => by unfold swapA at e; split at e <;> split at e <;> (try split at e) <;> (try split at e) <;> omega), costL_turn ht (s := 0) fun k hk => ?_⟩
  rw [lx_map (by omega)]
  unfold swapA
  omega
end

section
set_option linter.all false
open Go.RowKit

/-- sums over paths -/
def sumP (f : PthR → Int) : List PthR → Int
  | [] => 0
  | p :: r => f p + sumP f r
theorem sumP_app (f : PthR → Int) : ∀ l m, sumP f (l ++ m) = sumP f l + sumP f m
  | [], m => by simp [sumP]
  | p :: r, m => by simp only [List.cons_append, sumP, sumP_app f r m]; omega
theorem sumP_nn {f : PthR → Int} : ∀ {l : List PthR}, (∀ p ∈ l, 0 ≤ f p) → 0 ≤ sumP f l
  | [], _ => Int.le_refl _
  | p :: r, h => by
    have h1 := h p (by simp)
    have h2 := sumP_nn (l := r) fun q hq => h q (by simp [hq])
    simp only [sumP]; omega
theorem sumP_take {f : PthR → Int} {l : List PthR} : ∀ {m : Nat}, m ≤ l.length → ∀ (g : Nat → Int), g 0 = 0 → (∀ i, i < m → g (i + 1) = g i + f (lx l i)) → g m = sumP f (l.take m)
  | 0, _, g, h0, _ => by simp [sumP, h0]
  | m + 1, hm, g, h0, hs => by
    rw [hs m (by omega), sumP_take (by omega) g h0 (fun i hi => hs i (by omega)), List.take_succ, lx_some (by omega)]
    simp only [Option.toList_some, sumP_app, sumP]
    omega
/-- what one path takes, what bounds one path -/
def costP (os : List LOrd) (lay : List Int) (p : PthR) : Int := p.cnt * pathT lay (pathE os p.os)
def bndP (os : List LOrd) (p : PthR) : Int := p.cnt * Dv (fun k => (lx (pathE os p.os) k).item) 0 ((pathE os p.os).length - 1)
theorem costL_sum (t : TD) (lay : List Int) : costL t lay = sumP (costP t.os lay) t.ps := by
  have := sumP_take (f := costP t.os lay) (l := t.ps) (m := t.ps.length) (Nat.le_refl _) (fun i => costT (fun i => (lx t.ps i).cnt) (fun i => lx (openE t) i) lay i) rfl (fun i hi => by
    simp only [costT, costP, openE]; rw [lx_map hi])
  rw [List.take_length] at this
  exact this
theorem boundN_sum (t : TD) : boundN t = sumP (bndP t.os) t.ps := by
  have := sumP_take (f := bndP t.os) (l := t.ps) (m := t.ps.length) (Nat.le_refl _) (fun i => boundTo t i) rfl (fun i hi => by
    have e : evsE t i = pathE t.os (lx t.ps i).os := by unfold evsE openE; rw [lx_map hi]
    have e2 : itE t i = fun k => (lx (pathE t.os (lx t.ps i).os) k).item := by funext k; unfold itE; rw [e]
    simp only [boundTo, bndP]
    rw [e, e2])
  rw [List.take_length] at this
  exact this
/-- one path less -/
theorem sumP_less {f : PthR → Int} {l : List PthR} (h : ∀ p ∈ l, 0 ≤ f p) {k : Nat} (hk : k < l.length) : sumP f (l.take k ++ l.drop (k + 1)) ≤ sumP f l := by
  have e : l = l.take k ++ lx l k :: l.drop (k + 1) := by
    rw [lx_eq hk, ← List.drop_eq_getElem_cons hk, List.take_append_drop]
  have h1 := h _ (lx_mem hk)
  have h2 := congrArg (sumP f) e
  rw [sumP_app] at h2 ⊢
  simp only [sumP] at h2
  omega
/-- greater Counts -/
def timesP (n : Int) (p : PthR) : PthR := { p with cnt := p.cnt * n }
theorem sumP_times {f : PthR → Int} {n : Int} : ∀ {l : List PthR}, (∀ p ∈ l, f (timesP n p) = f p * n) → sumP f (l.map (timesP n)) = sumP f l * n
  | [], _ => by simp [sumP]
  | p :: r, h => by
    simp only [List.map_cons, sumP]
    rw [h p (by simp), sumP_times fun q hq => h q (by simp [hq]), Int.add_mul]
theorem costP_times (os : List LOrd) (lay : List Int) (n : Int) (p : PthR) : costP os lay (timesP n p) = costP os lay p * n := by
  simp only [costP, timesP]; rw [Int.mul_assoc, Int.mul_comm n, ← Int.mul_assoc]
theorem bndP_times (os : List LOrd) (n : Int) (p : PthR) : bndP os (timesP n p) = bndP os p * n := by
  simp only [bndP, timesP]; rw [Int.mul_assoc, Int.mul_comm n, ← Int.mul_assoc]
theorem chkL_mk {t : TD} (h : t.Ok) : chkL t = (0, 0, 0) := by
  obtain ⟨h1, h2, h3, h4, h5, h6, h7⟩ := h
  unfold chkL
  rw [if_neg (by unfold outP; omega), if_neg (by unfold outP; omega), if_neg (by omega), firstBad_none (fun j hj => h6 _ (lx_mem hj))]
  simp only
  rw [firstBad_none (fun j hj => h7 _ (lx_mem hj))]
theorem wild_cnt {os : List LOrd} {p : List Int} {c c' : Int} (h : wildL os p c = 0) : wildL os p c' = if outP c' 1 1000 then 7 else 0 := by
  unfold wildL at h ⊢
  split at h
  · cases h
  rename_i h1
  split at h
  · cases h
  split at h
  · cases h
  rename_i h3
  split at h
  · cases h
  rename_i h4
  rw [if_neg h1, if_neg h3, if_neg h4]
/-- a task with one path less -/
theorem ok_less {t t' : TD} (h : t.Ok) {k : Nat} (hk : k < t.ps.length) (ho : t'.os = t.os) (hd : t'.data = t.data) (hl : t'.lines = t.lines) (hp : t'.ps = t.ps.take k ++ t.ps.drop (k + 1)) : t'.Ok := by
  obtain ⟨h1, h2, h3, h4, h5, h6, h7⟩ := h
  refine ⟨by rw [ho]; exact h1, by rw [hd]; exact h2, by rw [hl]; exact h3, ?_, by rw [ho, hd, hl]; exact h5, by rw [ho, hd]; exact h6, fun p hm => ?_⟩
  · rw [hp, List.length_append, List.length_take, List.length_drop]; omega
  · rw [hp] at hm
    rw [ho]
    rcases List.mem_append.1 hm with hm | hm
    · exact h7 p (List.mem_of_mem_take hm)
    · exact h7 p (List.mem_of_mem_drop hm)
/-- a task with greater Counts -/
theorem ok_more {t t' : TD} (h : t.Ok) {n : Int} (ho : t'.os = t.os) (hd : t'.data = t.data) (hl : t'.lines = t.lines) (hp : t'.ps = t.ps.map (timesP n)) : t'.Ok ∨ (chkL t').2.2 = 7 := by
  obtain ⟨h1, h2, h3, h4, h5, h6, h7⟩ := h
  have hw : ∀ i, i < t.ps.length → wildL t'.os (lx t'.ps i).os (lx t'.ps i).cnt = if outP ((lx t.ps i).cnt * n) 1 1000 then 7 else 0 := fun i hi => by
    rw [hp, lx_map hi, ho]
    exact wild_cnt (p := (lx t.ps i).os) (c := (lx t.ps i).cnt) (h7 _ (lx_mem hi))
  have hlen : t'.ps.length = t.ps.length := by rw [hp, List.length_map]
  by_cases hc : ∀ i, i < t.ps.length → ¬ outP ((lx t.ps i).cnt * n) 1 1000
  · refine .inl ⟨by rw [ho]; exact h1, by rw [hd]; exact h2, by rw [hl]; exact h3, by omega, by rw [ho, hd, hl]; exact h5, by rw [ho, hd]; exact h6, fun p hm => ?_⟩
    obtain ⟨i, hi, rfl⟩ := List.mem_iff_getElem.1 hm
    have := hw i (by omega)
    rw [if_neg (hc i (by omega)), lx_eq hi] at this
    exact this
  · refine .inr ?_
    unfold chkL
    rw [if_neg (by rw [ho]; unfold outP; omega), if_neg (by rw [hd, hl]; unfold outP; omega), if_neg (by rw [ho, hd, hl]; omega), firstBad_none (fun j hj => by rw [ho, hd]; exact h6 _ (lx_mem (by rw [ho] at hj; exact hj)))]
    simp only
    rcases firstBad_i (f := fun i => wildL t'.os (lx t'.ps i).os (lx t'.ps i).cnt) (n := t'.ps.length) with ⟨_, h8⟩ | ⟨i, h8, h9, h10⟩
    · exfalso
      refine hc fun i hi ho2 => ?_
      have := h8 i (by omega)
      rw [hw i hi, if_pos ho2] at this
      cases this
    · rw [h8]
      simp only at h10 ⊢
      rw [hw i (by omega)] at h10 ⊢
      split
      · rfl
      · rename_i h11; rw [if_neg h11] at h10; exact absurd rfl h10
end

section
set_option linter.all false
open Go.RowKit

/- the bound is no more than what a layout takes -/
theorem timeT_mod {lay : List Int} {l : List Evt} : ∀ i, (timeT lay l i - lx lay (lx l i).item.toNat) % 16 = 0
  | 0 => by simp [timeT, beginT]
  | i + 1 => by simp only [timeT, stepT]; omega
theorem timeT_step {lay : List Int} {l : List Evt} (h : ∀ v ∈ l, 0 ≤ v.wait) {i : Nat} (hi : i + 1 < l.length) : timeT lay l i + 1 ≤ timeT lay l (i + 1) := by
  have := h _ (lx_mem hi)
  simp only [timeT, stepT]; omega
theorem upI_le {n B : Int} (h : n ≤ B) (hB : B % 16 = 0) : upI n ≤ B := by unfold upI; omega
theorem DR_le {lay : List Int} {l : List Evt} {it : Nat → Int} (hit : it = fun k => (lx l k).item) (h : ∀ v ∈ l, 0 ≤ v.wait) : ∀ y, y < l.length → (∀ z, z < y → Rv it z y ≤ timeT lay l y - timeT lay l z) ∧ (∀ a, a < y → Dv it a y ≤ timeT lay l y - timeT lay l a) := by
  intro y
  induction y using Nat.strongRecOn with
  | _ y ih =>
    intro hy
    have hmono : ∀ a b, a ≤ b → b < l.length → timeT lay l a ≤ timeT lay l b := by
      intro a b hab
      induction b with
      | zero => intro _; obtain rfl : a = 0 := by omega
                exact Int.le_refl _
      | succ b ihb =>
        intro hb
        by_cases e : a = b + 1
        · rw [e]; exact Int.le_refl _
        · have h1 := ihb (by omega) (by omega)
          have h2 := timeT_step (lay := lay) h hb
          omega
    have hD : ∀ a z, a ≤ z → z < y → Dv it a z ≤ timeT lay l z - timeT lay l a := fun a z haz hz => by
      by_cases e : a = z
      · subst e; rw [Dv_out (it := it) (Nat.le_refl _)]; omega
      · exact (ih z hz (by omega)).2 a (by omega)
    have hpre : ∀ a, a < y → Dv it a (y - 1) + 1 ≤ timeT lay l y - timeT lay l a := fun a ha => by
      have h1 := hD a (y - 1) (by omega) (by omega)
      have h2 := timeT_step (lay := lay) (i := y - 1) h (by omega)
      rw [show y - 1 + 1 = y by omega] at h2
      omega
    have hR : ∀ k z, z + k + 1 = y → Rv it z y ≤ timeT lay l y - timeT lay l z := by
      intro k
      induction k using Nat.strongRecOn with
      | _ k ihk =>
        intro z hz
        rw [Rv_eq (it := it) (by omega)]
        split
        · rename_i he
          refine upI_le ?_ ?_
          · unfold innV
            refine innB_le (hpre z (by omega)) _ fun w h1 h2 => ?_
            have h3 := hD z w (by omega) (by omega)
            have h4 := ihk (y - 1 - w) (by omega) w (by omega)
            omega
          · have h1 := timeT_mod (lay := lay) (l := l) y
            have h2 := timeT_mod (lay := lay) (l := l) z
            rw [hit] at he
            dsimp only at he
            rw [he] at h2
            omega
        · have := hmono z y (by omega) hy; omega
    refine ⟨fun z hz => hR (y - 1 - z) z (by omega), fun a ha => ?_⟩
    rw [Dv_eq (it := it) ha]
    rcases maxB_at (sm := fun z => decide (it z = it y)) (f := fun z => Dv it a z + Rv it z y) (n0 := Dv it a (y - 1) + 1) (a := a) (y - a) with h1 | ⟨z, h1, h2, h3, h4⟩
    · rw [h1]; exact hpre a ha
    · rw [h4]
      have h5 := hD a z h1 (by omega)
      have h6 := hR (y - 1 - z) z (by omega)
      omega
theorem sumP_mono {f g : PthR → Int} : ∀ {l : List PthR}, (∀ p ∈ l, f p ≤ g p) → sumP f l ≤ sumP g l
  | [], _ => Int.le_refl _
  | p :: r, h => by
    have h1 := h p (by simp)
    have h2 := sumP_mono (l := r) fun q hq => h q (by simp [hq])
    simp only [sumP]; omega
theorem bound_le {t : TD} (ht : t.Ok) (lay : List Int) : boundN t ≤ costL t lay := by
  rw [boundN_sum, costL_sum]
  refine sumP_mono fun p hp => ?_
  have hc := wildL_ok (ht.w _ hp)
  unfold bndP costP
  have hw : ∀ v ∈ pathE t.os p.os, 0 ≤ v.wait := fun v hv => (pathE_item ht hp v hv).2.2.1
  have hl := pathE_len t.os p.os hc.1.2
  refine Int.mul_le_mul_of_nonneg_left ?_ (by omega)
  unfold pathT
  by_cases h0 : (pathE t.os p.os).length - 1 = 0
  · rw [h0, Dv_out (Nat.le_refl _)]
    simp [timeT]
  · exact (DR_le (lay := lay) rfl hw _ (by omega)).2 0 (by omega)
/- the least of all layouts -/
def leO (t : TD) (o : Option (List Int)) (c : Int) : Prop := ∃ l, o = some l ∧ costL t l ≤ c
theorem orL_ne {a b : Int} (h : ¬ a = 0) : orL [a, b] = a := by simp only [orL]; rw [if_pos h]
theorem betB_le {t : TD} {s l : List Int} (h : betB t s (some l) = true) : costL t s ≤ costL t l := by
  simp only [betB, decide_eq_true_eq] at h
  by_cases e : costL t s - costL t l = 0
  · omega
  · rw [orL_ne e] at h; omega
theorem betB_ge {t : TD} {s l : List Int} (h : ¬ betB t s (some l) = true) : costL t l ≤ costL t s := by
  simp only [betB, decide_eq_true_eq] at h
  by_cases e : costL t s - costL t l = 0
  · omega
  · rw [orL_ne e] at h; omega
theorem bst_mono {t : TD} {c : Int} : ∀ k s o, leO t o c → leO t (bstF t k s o) c
  | 0, s, o, ⟨l, h1, h2⟩ => by
    subst h1
    rw [bstF]
    split
    · rename_i h; have := betB_le h; exact ⟨s, rfl, by omega⟩
    · exact ⟨l, rfl, h2⟩
  | k + 1, s, o, h => by
    rw [bstF]
    generalize List.range 16 = ps
    induction ps generalizing o with
    | nil => exact h
    | cons p ps ih =>
      rw [List.foldl_cons]
      refine ih _ ?_
      split
      · exact bst_mono k _ _ h
      · exact h
theorem fold_at {α β : Type} {f : β → α → β} {Q : β → Prop} {p : α} (hm : ∀ a b, Q b → Q (f b a)) (hp : ∀ b, Q (f b p)) : ∀ (l : List α) b, p ∈ l → Q (l.foldl f b)
  | [], _, h => by simp at h
  | a :: l, b, h => by
    rw [List.foldl_cons]
    have hk : ∀ (l : List α) b, Q b → Q (l.foldl f b) := by
      intro l
      induction l with
      | nil => intro b h; exact h
      | cons a l ih => intro b h; rw [List.foldl_cons]; exact ih _ (hm a b h)
    rcases List.mem_cons.1 h with h | h
    · subst h; exact hk l _ (hp b)
    · exact fold_at hm hp l _ h
theorem bst_reach {t : TD} {l : List Int} (hc : ∀ i, 1 ≤ i → i < l.length → ∃ p, p < 16 ∧ lx l i = freeP (l.take i) t.lines p ∧ 0 ≤ lx l i) : ∀ k s o, 1 ≤ s.length → s.length + k = l.length → s = l.take s.length → leO t (bstF t k s o) (costL t l)
  | 0, s, o, h1, h2, h3 => by
    have e : s = l := by rw [h3, List.take_of_length_le (by omega)]
    rw [bstF, e]
    split
    · exact ⟨l, rfl, Int.le_refl _⟩
    · rename_i h
      cases o with
      | none => exact absurd rfl h
      | some m => exact ⟨m, rfl, betB_ge h⟩
  | k + 1, s, o, h1, h2, h3 => by
    obtain ⟨p, hp, hv, hnn⟩ := hc s.length h1 (by omega)
    rw [bstF]
    refine fold_at (Q := fun o => leO t o (costL t l)) (p := p) (fun q o' h => ?_) (fun o' => ?_) (List.range 16) o (by simpa using hp)
    · split
      · exact bst_mono k _ _ h
      · exact h
    · rw [freeL_at hp]
      rw [← h3] at hv
      rw [← hv, if_pos hnn]
      refine bst_reach hc k _ _ (by simp) (by simp; omega) ?_
      have e : l.take (s.length + 1) = s ++ [lx l s.length] := by rw [List.take_succ, ← h3, lx_some (by omega)]; rfl
      rw [List.length_append, List.length_singleton, e]
/-- what the search keeps -/
theorem freeV_not {lay : List Int} : ∀ f (p : Int), freeV lay p f < p + 16 * f → freeV lay p f ∉ lay
  | 0, p, h => by simp [freeV] at h
  | f + 1, p, h => by
    unfold freeV at h ⊢
    split
    · rename_i hm
      rw [if_pos hm] at h
      exact freeV_not f (p + 16) (by push_cast at h; omega)
    · rename_i hm; exact hm
theorem freeP_ok {lay : List Int} {lines : Int} (hl : lines ≤ 8) {p : Nat} (h : 0 ≤ freeP lay lines p) : freeP lay lines p < lines * 16 ∧ freeP lay lines p ∉ lay := by
  unfold freeP at h ⊢
  split
  · rename_i h1; rw [if_pos h1] at h; omega
  · rename_i h1; exact ⟨by omega, freeV_not 8 _ (by push_cast; omega)⟩
structure Pre (lines : Int) (s : List Int) : Prop where
  rg : ∀ a ∈ s, 0 ≤ a ∧ a < lines * 16
  nd : s.Nodup
  h0 : s ≠ [] ∧ lx s 0 = 0
theorem bst_inv {t : TD} (hl : t.lines ≤ 8) {n : Nat} : ∀ k s o, s.length + k = n → Pre t.lines s → (∀ l, o = some l → Pre t.lines l ∧ l.length = n) → ∀ l, bstF t k s o = some l → Pre t.lines l ∧ l.length = n
  | 0, s, o, hk, hs, ho, l, h => by
    rw [bstF] at h
    split at h
    · cases h; exact ⟨hs, by omega⟩
    · exact ho l h
  | k + 1, s, o, hk, hs, ho, l, h => by
    rw [bstF] at h
    have hps : ∀ p ∈ List.range 16, p < 16 := fun p hp => by simpa using hp
    generalize List.range 16 = ps at h hps
    induction ps generalizing o with
    | nil => exact ho l h
    | cons p ps ih =>
      rw [List.foldl_cons] at h
      refine ih _ ?_ h (fun q hq => hps q (by simp [hq]))
      intro m hm
      rw [freeL_at (hps p (by simp))] at hm
      split at hm
      · rename_i hv
        have hf := freeP_ok hl hv
        refine bst_inv hl k _ _ (by simp; omega) ⟨fun a ha => ?_, ?_, by simp, ?_⟩ ho m hm
        · rcases List.mem_append.1 ha with ha | ha
          · exact hs.rg a ha
          · obtain rfl : a = _ := by simpa using ha
            exact ⟨hv, hf.1⟩
        · rw [List.nodup_append]
          refine ⟨hs.nd, by simp, fun a ha b hb => ?_⟩
          obtain rfl : b = _ := by simpa using hb
          intro e; subst e; exact hf.2 ha
        · rw [lx_app_l (by cases s with | nil => exact absurd rfl hs.h0.1 | cons => simp)]; exact hs.h0.2
      · exact ho m hm
/- each layout has one like those of the search -/
def canL (g : Nat → Nat) : Nat → List Int
  | 0 => []
  | i + 1 => canL g i ++ [freeV (canL g i) (g i) 8]
def cnN (g : Nat → Nat) (p : Nat) : Nat → Nat
  | 0 => 0
  | i + 1 => cnN g p i + if g i = p then 1 else 0
theorem cnN_mono {g : Nat → Nat} {p m i : Nat} (h : m ≤ i) : cnN g p m ≤ cnN g p i := by
  induction i with
  | zero => obtain rfl : m = 0 := by omega
            exact Nat.le_refl _
  | succ i ih =>
    by_cases e : m = i + 1
    · rw [e]; exact Nat.le_refl _
    · have := ih (by omega); simp only [cnN]; omega
theorem cnN_at {g : Nat → Nat} {p j : Nat} : ∀ i, j < cnN g p i → ∃ m, m < i ∧ g m = p ∧ cnN g p m = j
  | 0, h => by simp [cnN] at h
  | i + 1, h => by
    simp only [cnN] at h
    by_cases h1 : j < cnN g p i
    · obtain ⟨m, a, b, c⟩ := cnN_at i h1; exact ⟨m, by omega, b, c⟩
    · split at h
      · rename_i e; exact ⟨i, by omega, e, by omega⟩
      · omega
theorem canL_len (g : Nat → Nat) : ∀ i, (canL g i).length = i
  | 0 => rfl
  | i + 1 => by simp [canL, canL_len g i]
theorem canL_at {g : Nat → Nat} {j : Nat} : ∀ i, j < i → lx (canL g i) j = freeV (canL g j) (g j) 8
  | 0, h => by omega
  | i + 1, h => by
    rw [canL]
    by_cases e : j = i
    · subst e; exact lx_app_e (canL_len g j).symm
    · rw [lx_app_l (by rw [canL_len]; omega)]; exact canL_at i (by omega)
theorem canL_take {g : Nat → Nat} {j : Nat} : ∀ i, j ≤ i → (canL g i).take j = canL g j
  | 0, h => by obtain rfl : j = 0 := by omega
               rfl
  | i + 1, h => by
    by_cases e : j = i + 1
    · subst e; rw [List.take_of_length_le (by rw [canL_len]; exact Nat.le_refl _)]
    · rw [canL, List.take_append_of_le_length (by rw [canL_len]; omega)]; exact canL_take i (by omega)
theorem canL_v {g : Nat → Nat} (hg : ∀ j, g j < 16) : ∀ i, (∀ j, j ≤ i → cnN g (g j) j < 8) → freeV (canL g i) (g i) 8 = g i + 16 * (cnN g (g i) i : Int) := by
  intro i
  induction i using Nat.strongRecOn with
  | _ i ih =>
    intro hc
    have hm : ∀ a, a ∈ canL g i ↔ ∃ m, m < i ∧ a = (g m : Int) + 16 * (cnN g (g m) m : Int) := fun a => by
      constructor
      · intro ha
        obtain ⟨m, h1, rfl⟩ := List.mem_iff_getElem.1 ha
        have h2 : m < i := by rw [canL_len] at h1; exact h1
        refine ⟨m, h2, ?_⟩
        rw [← lx_eq h1, canL_at i h2, ih m h2 (fun j hj => hc j (by omega))]
      · rintro ⟨m, h2, rfl⟩
        rw [← ih m h2 (fun j hj => hc j (by omega)), ← canL_at i h2]
        exact lx_mem (by rw [canL_len]; exact h2)
    refine freeV_eq (cnN g (g i) i) 8 _ (Nat.le_of_lt (hc i (Nat.le_refl _))) (fun j hj => ?_) (fun hn => ?_)
    · obtain ⟨m, h1, h2, h3⟩ := cnN_at i hj
      exact (hm _).2 ⟨m, h1, by rw [h2, h3]⟩
    · obtain ⟨m, h1, h2⟩ := (hm _).1 hn
      have h3 := hg m
      have h4 := hg i
      have e : g m = g i := by omega
      have h5 : cnN g (g i) (m + 1) ≤ cnN g (g i) i := cnN_mono (by omega)
      simp only [cnN, e, if_true] at h5
      rw [e] at h2
      omega
theorem cnN_filter (g : Nat → Nat) (p : Nat) : ∀ i, cnN g p i = ((List.range i).filter fun j => decide (g j = p)).length
  | 0 => rfl
  | i + 1 => by
    rw [List.range_succ, List.filter_append, List.length_append, ← cnN_filter g p i, cnN]
    by_cases h : g i = p <;> simp [h]
theorem cnN_bd {g : Nat → Nat} {lay : List Int} {L : Int} {i : Nat} (hi : i < lay.length) (h1 : ∀ a ∈ lay, 0 ≤ a ∧ a < L * 16) (h2 : ∀ i j, i < j → j < lay.length → lx lay i ≠ lx lay j) (h3 : ∀ j k, j ≤ i → k ≤ i → g j = g k → (lx lay j - lx lay k) % 16 = 0) : (cnN g (g i) i : Int) < L := by
  have key : (((List.range (i + 1)).filter fun j => decide (g j = g i)).map fun j => (lx lay j / 16).toNat).length ≤ (List.range L.toNat).length := by
    refine nodup_sub _ _ ?_ ?_
    · unfold List.Nodup
      rw [List.pairwise_map]
      refine List.Pairwise.imp_of_mem (R := (· < ·)) ?_ ((List.pairwise_lt_range).filter _)
      intro a b ha hb hab
      simp only [List.mem_filter, List.mem_range, decide_eq_true_eq] at ha hb
      have e := h3 a b (by omega) (by omega) (ha.2.trans hb.2.symm)
      have n := h2 a b hab (by omega)
      have ra := h1 _ (lx_mem (l := lay) (i := a) (by omega))
      have rb := h1 _ (lx_mem (l := lay) (i := b) (by omega))
      omega
    · intro x hx
      obtain ⟨a, ha, rfl⟩ := List.mem_map.1 hx
      simp only [List.mem_filter, List.mem_range, decide_eq_true_eq] at ha
      have ra := h1 _ (lx_mem (l := lay) (i := a) (by omega))
      rw [List.mem_range]
      omega
  rw [List.length_map, ← cnN_filter, List.length_range] at key
  simp only [cnN, if_true] at key
  omega
theorem best_min {t : TD} (ht : t.Ok) (hn : 0 < t.os.length + t.data.toNat) {lay : List Int} (hl : layL t lay = 0) : leO t (bestO t) (costL t lay) := by
  obtain ⟨h1, h2, h3⟩ := layE_ok hl
  have hl1 := ht.l1
  have h4 : ∀ i j, i < j → j < lay.length → lx lay i ≠ lx lay j := fun i j hij hj => take_ne h3 hij hj
  let g : Nat → Nat := fun i => ((lx lay i - lx lay 0) % 16).toNat
  have hg : ∀ j, g j < 16 := fun j => by show ((lx lay j - lx lay 0) % 16).toNat < 16; omega
  have hgv : ∀ j, (g j : Int) = (lx lay j - lx lay 0) % 16 := fun j => by show (((lx lay j - lx lay 0) % 16).toNat : Int) = _; omega
  have hcb : ∀ i, i < lay.length → (cnN g (g i) i : Int) < t.lines := fun i hi => cnN_bd hi h2 h4 fun j k _ _ e => by
    have e1 := hgv j
    have e2 := hgv k
    rw [e] at e1
    omega
  have hv : ∀ i, i < lay.length → freeV (canL g i) (g i) 8 = g i + 16 * (cnN g (g i) i : Int) := fun i hi => canL_v hg i fun j hj => by have := hcb j (by omega); omega
  have hlx : ∀ i, i < lay.length → lx (canL g lay.length) i = g i + 16 * (cnN g (g i) i : Int) := fun i hi => by rw [canL_at _ hi, hv i hi]
  have hcost : costL t (canL g lay.length) = costL t lay := costL_turn ht (s := - lx lay 0) fun k hk => by
    rw [hlx k (by omega)]
    have := hgv k
    omega
  rw [← hcost]
  have h00 : lx (canL g lay.length) 0 = 0 := by
    rw [hlx 0 (by omega)]
    have := hgv 0
    simp only [cnN]
    omega
  have hlen := canL_len g lay.length
  refine bst_reach (fun i h1i hi => ?_) _ _ _ (by simp) (by simp; omega) ?_
  · rw [hlen] at hi
    have hb := hcb i hi
    refine ⟨g i, hg i, ?_, ?_⟩
    · rw [canL_take _ (by omega), hlx i hi]
      unfold freeP
      rw [hv i hi, if_neg (by have := hg i; omega)]
    · rw [hlx i hi]; omega
  · show [0] = (canL g lay.length).take 1
    rw [List.take_succ, List.take_zero, lx_some (by omega), h00]; rfl
/-- Best: a layout, the first item at 0 -/
theorem best_lay {t : TD} (ht : t.Ok) (hn : 0 < t.os.length + t.data.toNat) {l : List Int} (h : bestO t = some l) : layL t l = 0 ∧ lx l 0 = 0 ∧ l.length = t.os.length + t.data.toNat := by
  have hl1 := ht.l1
  obtain ⟨h1, h2⟩ := bst_inv (t := t) (by omega) (n := t.os.length + t.data.toNat) _ [0] none (by simp; omega) ⟨fun a ha => by
    obtain rfl : a = 0 := by simpa using ha
    omega, by simp, by simp [lx]⟩ (fun l h => by cases h) l h
  refine ⟨layE_mk h2 h1.rg fun i j hij hj => ?_, h1.h0.2, h2⟩
  rw [lx_eq (by omega), lx_eq hj]
  intro e
  have := (List.getElem_inj h1.nd).1 e
  omega
end

section
set_option linter.all false
set_option pp.maxSteps 100000
set_option maxRecDepth 100000
set_option maxHeartbeats 4000000
open Go.RowKit

theorem costR_cases (t : TD) (lay : List Int) : (∃ e, ¬ e = 0 ∧ costR t lay = (0, e)) ∨ ((chkL t).2.2 = 0 ∧ layL t lay = 0 ∧ costR t lay = (costL t lay, 0)) := by
  unfold costR
  split
  · rename_i h; exact .inl ⟨_, h, rfl⟩
  · rename_i h1
    split
    · rename_i h; exact .inl ⟨_, h, rfl⟩
    · rename_i h2; exact .inr ⟨by simpa using h1, by simpa using h2, rfl⟩
theorem costL_nn {t : TD} (ht : t.Ok) (lay : List Int) : 0 ≤ costL t lay ∧ costL t lay ≤ 24000000 := by
  have hc := fun i (hi : i < t.ps.length) => (wildL_ok (ht.w _ (lx_mem (l := t.ps) (i := i) hi)))
  have := costT_bd (cnt := fun i => (lx t.ps i).cnt) (es := fun i => lx (openE t) i) (lay := lay) (m := t.ps.length) (fun i hi => (hc i hi).2.1) (fun i hi => by
    rw [openE, lx_map hi]
    exact pathT_bd (fun v hv => (pathE_item ht (lx_mem hi) v hv).2.2) (by have := pathE_len t.os (lx t.ps i).os (hc i hi).1.2; omega)) t.ps.length (Nat.le_refl _)
  have := ht.p1
  unfold costL
  omega
def tmapL (g : Int → Int) (lay : List Int) (k : Nat) : List Int := (lay.take k).map g
theorem tmapL_len {g : Int → Int} {lay : List Int} {k : Nat} (h : k ≤ lay.length) : (tmapL g lay k).length = k := by unfold tmapL; rw [List.length_map, List.length_take]; omega
theorem tmapL_succ {g : Int → Int} {lay : List Int} {k : Nat} (h : k < lay.length) : tmapL g lay k ++ [g (lx lay k)] = tmapL g lay (k + 1) := by unfold tmapL; rw [List.take_succ, lx_some h]; simp
theorem tmapL_all {g : Int → Int} {lay : List Int} : tmapL g lay lay.length = lay.map g := by unfold tmapL; rw [List.take_length]
theorem cost_tm (t : TD) (lay : List Int) (g : Int → Int) (a : Option Addr) (c : Nat) (n : Int) (w : World) (hn : t.Len) (hT : t.At w) (hl : Rd icell 1 w a (tmapL g lay lay.length)) (hll : (tmapL g lay lay.length).length ≤ 9223372036854775807 ∧ (tmapL g lay lay.length).length ≤ c) (h : costR t (lay.map g) = (n, 0)) :
    Calls Try.prog 8 #[.agg #[.slice t.ao t.os.length t.co, .int .i64 t.data, .int .i64 t.lines, .slice t.ap t.ps.length t.cp], .slice a (tmapL g lay lay.length).length c] w (fun e w' => e = .returned (.tuple #[.int .i64 n, .int .i64 0]) ∧ Below w.heap.size w w') := by
  have h3 := Cost_v t (tmapL g lay lay.length) a c w hn hT hl hll
  rw [tmapL_all, h] at h3
  rw [tmapL_all]
  exact h3
theorem turned_walk (t : TD) (lay : List Int) (al : Option Addr) (cl : Nat) (x0 x1 x2 : Int) (w : World) (hn : t.Len) (hT : t.At w) (hl : Rd icell 1 w al lay) (hll : lay.length ≤ 9223372036854775807 ∧ lay.length ≤ cl) (b0 : 0 ≤ x0 ∧ x0 ≤ 255) (b1 : 0 ≤ x1 ∧ x1 ≤ 255) (b2 : 0 ≤ x2 ∧ x2 ≤ 255) :
    Calls Try.prog 5 #[.agg #[.slice t.ao t.os.length t.co, .int .i64 t.data, .int .i64 t.lines, .slice t.ap t.ps.length t.cp], .slice al lay.length cl, .agg #[.int .u8 x0, .int .u8 x1, .int .u8 x2]] w (fun e w' => e = .returned (.bool true) ∧ Below w.heap.size w w') := by
  refine go_in Try.func5 rfl Try.ntmps5 [] [] (Mem.start _) ?_
  refine go ?_
  refine GoL.a (fun b3 => ?_)
  refine go ?_
  refine GoL.a (fun b5 => ?_)
  refine go ?_
  refine GoL.cv (fun w' hw => Cost_v t lay al cl w' hn (hT.old hw) (hw.old hl) hll) ?_
  rcases costR_cases t lay with ⟨e, he, hR⟩ | ⟨hc, hL, hR⟩
  · rw [hR]
    clear hR
    have he2 : (e != 0) = true := by simpa using he
    refine go ?_
    refine GoL.cv (fun w' hw => awake_v w') ?_
    refine go ?_
    exact ev1 rfl
  rw [hR]
  clear hR
  obtain ⟨⟨p, i, e⟩, hr⟩ : ∃ q : Int × Int × Int, q = chkL t := ⟨_, rfl⟩
  rw [← hr] at hc
  dsimp only at hc
  subst hc
  have htok := chkL_ok hr.symm
  have hb := costL_nn htok lay
  have hl1 := htok.l1
  refine go ?_
  refine go_if (fun h => ?_) (fun h => ?_)
  · exact absurd h (by omega)
  have hz : ¬ t.lines = 0 := by omega
  refine go ?_
  have hp : 0 ≤ x1 % t.lines ∧ x1 % t.lines < t.lines := ⟨Int.emod_nonneg x1 hz, Int.emod_lt_of_pos x1 (by omega)⟩
  have hq : 0 ≤ x2 % t.lines ∧ x2 % t.lines < t.lines := ⟨Int.emod_nonneg x2 hz, Int.emod_lt_of_pos x2 (by omega)⟩
  generalize x1 % t.lines = p at hp ⊢
  generalize x2 % t.lines = q at hq ⊢
  have hLE := hid (layE_ok hL)
  have hcs : ∀ l', layL t l' = 0 → costL t l' = costL t lay → costR t l' = (costL t lay, 0) := fun l' e1 e2 => by
    unfold costR; rw [← hr, if_neg (by simp), if_neg (by simpa using e1), e2]
  have hcT := hcs _ (turn_ok (x := x0) (hcs _ hL rfl) htok hL).1 (turn_ok (x := x0) (hcs _ hL rfl) htok hL).2
  have hcS := hcs _ (swap_ok hp hq htok hL).1 (swap_ok hp hq htok hL).2
  have hcT' := hid hcT
  have hcS' := hid hcS
  clear hcT hcS hcs
  refine GoC.mem (fun w hw => Mem.own0 icell 1 3 (Mem.own0 icell 1 3 hw)) ?_
  refine go_loop (X := Nat × (Option Addr × Nat) × (Option Addr × Nat)) (fun y => y.1 ≤ lay.length) (fun y => lay.length - y.1) (fun y => [(13, .int .i64 y.1), (11, .slice y.2.1.1 (tmapL (turnA x0) lay y.1).length y.2.1.2), (12, .slice y.2.2.1 (tmapL (swapA p q) lay y.1).length y.2.2.2)])
    (fun y => [.cells b5 [.int .u8 x0, .int .u8 x1, .int .u8 x2], .cells b3 [.slice t.ao t.os.length t.co, .int .i64 t.data, .int .i64 t.lines, .slice t.ap t.ps.length t.cp], .own icell 1 3 (.slice y.2.1.1 (tmapL (turnA x0) lay y.1).length y.2.1.2) (tmapL (turnA x0) lay y.1), .own icell 1 3 (.slice y.2.2.1 (tmapL (swapA p q) lay y.1).length y.2.2.2) (tmapL (swapA p q) lay y.1)]) (0, (none, 0), (none, 0)) [1, 3, 5, 7, 9, 10] (Nat.zero_le _) (by simp [AgreeL, At, tmapL]) (by simp only [tmapL, List.take_zero, List.map_nil]; exact sb) (fun y hy => ?_)
  obtain ⟨k, ⟨a1, c1⟩, a2, c2⟩ := y
  dsimp only at hy ⊢
  have hln : lay.length ≤ 40 := by have := htok.n1; have := htok.d1; have := hLE.out.1; omega
  have hm1 := hid (tmapL_len (g := turnA x0) (lay := lay) hy)
  have hm2 := hid (tmapL_len (g := swapA p q) (lay := lay) hy)
  refine go ?_
  refine go_if (fun h2 => ?_) (fun h2 => ?_)
  · have hk : k < lay.length := by omega
    have hrg := hLE.out.2.1 _ (lx_mem hk)
    refine go ?_
    refine GoL.sl (Ef.lit (f := icell) (m := 1) (e := 3) [turnA x0 (lx lay k)] (fun _ => rfl) rfl) (fun a3 c3 => ?_)
    refine go ?_
    refine GoL.sl (Ef.app (f := icell) (l := tmapL (turnA x0) lay k) (l2 := [turnA x0 (lx lay k)]) (v := .slice a1 (tmapL (turnA x0) lay k).length c1) elI (fun _ => rfl) icell_one (by have := hm1.out; simp only [List.length_cons, List.length_nil]; omega) pk (fun w hw => hw.ownRd (l := [turnA x0 (lx lay k)]) pk)) (fun a4 c4 => ?_)
    rw [tmapL_succ hk]
    refine go ?_
    refine go_join [(1, .slice al lay.length cl), (3, .pointer (some ⟨b3, 0, none⟩)), (5, .pointer (some ⟨b5, 0, none⟩)), (7, .int .i64 (costL t lay)), (9, .int .i64 p), (10, .int .i64 q), (13, .int .i64 k), (11, .slice a4 (tmapL (turnA x0) lay (k + 1)).length c4), (12, .slice a2 (tmapL (swapA p q) lay k).length c2), (15, .int .i64 (lx lay k % 16)), (14, .int .i64 (if lx lay k / 16 = p then q else if lx lay k / 16 = q then p else lx lay k / 16))]
      [.cells b5 [.int .u8 x0, .int .u8 x1, .int .u8 x2], .cells b3 [.slice t.ao t.os.length t.co, .int .i64 t.data, .int .i64 t.lines, .slice t.ap t.ps.length t.cp], .own icell 1 3 (.slice a4 (tmapL (turnA x0) lay (k + 1)).length c4) (tmapL (turnA x0) lay (k + 1)), .own icell 1 3 (.slice a2 (tmapL (swapA p q) lay k).length c2) (tmapL (swapA p q) lay k)] ?_ ?_
    · refine go_if (fun h5 => ?_) (fun h5 => ?_)
      · have h6 := hid h5
        clear h5
        refine go ?_
        rw [if_pos (by simpa using h6.out)]
        exact xj_n (by simp [AgreeL, At]) sb
      · rw [if_neg (by simpa using h5)]
        refine go ?_
        refine go_if (fun h7 => ?_) (fun h7 => ?_)
        · have h6 := hid h7
          clear h7
          refine go ?_
          rw [if_pos (by simpa using h6.out)]
          exact xj_n (by simp [AgreeL, At]) sb
        · rw [if_neg (by simpa using h7)]
          refine go ?_
          exact xj_n (by simp [AgreeL, At]) sb
    have hsw : 0 ≤ (if lx lay k / 16 = p then q else if lx lay k / 16 = q then p else lx lay k / 16) ∧ (if lx lay k / 16 = p then q else if lx lay k / 16 = q then p else lx lay k / 16) ≤ 8 := by split; omega; split <;> omega
    have HSW : Hid (swapA p q (lx lay k) = (if lx lay k / 16 = p then q else if lx lay k / 16 = q then p else lx lay k / 16) * 16 + lx lay k % 16) := hid rfl
    generalize (if lx lay k / 16 = p then q else if lx lay k / 16 = q then p else lx lay k / 16) = ln at hsw HSW ⊢
    refine go ?_
    refine GoL.sl (Ef.lit (f := icell) (m := 1) (e := 3) [ln * 16 + lx lay k % 16] (fun _ => rfl) rfl) (fun a5 c5 => ?_)
    refine go ?_
    refine GoL.sl (Ef.app (f := icell) (l := tmapL (swapA p q) lay k) (l2 := [ln * 16 + lx lay k % 16]) (v := .slice a2 (tmapL (swapA p q) lay k).length c2) elI (fun _ => rfl) icell_one (by have := hm2.out; simp only [List.length_cons, List.length_nil]; omega) pk (fun w hw => hw.ownRd (l := [ln * 16 + lx lay k % 16]) pk)) (fun a6 c6 => ?_)
    rw [← HSW.out, tmapL_succ hk]
    refine go ?_
    exact go_again (k + 1, (a4, c4), (a6, c6)) hk (by simp only; omega) (by simp [AgreeL, At]) sb
  obtain rfl : k = lay.length := by omega
  refine go ?_
  refine GoL.cv (fun w' hw => cost_tm t lay (turnA x0) a1 c1 (costL t lay) w' hn (hT.old hw) (hw.ownRd pk) ⟨by have := hm1.out; omega, (hw.own (l := tmapL (turnA x0) lay lay.length) pk).cap⟩ hcT'.out) ?_
  refine go ?_
  refine GoL.cv (fun w' hw => cost_tm t lay (swapA p q) a2 c2 (costL t lay) w' hn (hT.old hw) (hw.ownRd pk) ⟨by have := hm2.out; omega, (hw.own (l := tmapL (swapA p q) lay lay.length) pk).cap⟩ hcS'.out) ?_
  refine go ?_
  refine GoL.cv (fun w' hw => awake_v w') ?_
  refine go ?_
  exact ev1 rfl
end

section
set_option linter.all false
set_option pp.maxSteps 100000
set_option maxRecDepth 100000
set_option maxHeartbeats 4000000
open Go.RowKit

section
variable {w0 : World} {Bs : List Nat} {P : Program} {n : Nat} {L : List (Nat × Value)} {H H1 H2 : List En} {u v : Value} {d : Nat} {T ty : TypeId} {pos : String} {af : Array Edge} {gd : Option (Nat × Bool)} {x y : Operand} {o : Oper}
/-- append to a list that is known by its value -/
theorem Ef.appU {α : Type} {f : α → List Value} {m bytes : Nat} {t e : TypeId} {l l2 : List α} {a : Option Addr} {c : Nat} (het : ElemT P t e m bytes) (hf : ∀ x, (f x).length = m) (hone : ∀ x, ∀ u ∈ f x, u.oneCell' = true) (hbytes : ((l.length + l2.length) + (l.length + l2.length) / 4 + 192) * bytes ≤ 140737488355328)
    (p : Pick (.sl f m e l v) H H1) (hrd : ∀ w, Mem w0 Bs H1 w → Rd f m w a l2) (hx : ∀ g, evF n (tab L g) x = v := by intro g; simp only [evF_tmp, tab_cons, Nat.reduceLT, Nat.reduceEqDiff, ↓reduceIte]; (try rfl))
    (hy : ∀ g, evF n (tab L g) y = .slice a l2.length c := by intro g; simp only [evF_tmp, tab_cons, Nat.reduceLT, Nat.reduceEqDiff, ↓reduceIte]; (try rfl)) (hd : d < n := by decide) :
    Ef w0 Bs P n ⟨some d, .call { callee := .builtin .append, args := #[x, y], argTypes := #[t, t] }, ty, pos, af, gd⟩ L H (.sl f m e (l ++ l2)) H1 := fun g w hw => by
  have h1 : Mem w0 Bs (.sl f m e l v :: H1) w := hw.perm p.perm
  obtain ⟨a', c', hv, h2⟩ := h1.slE
  exact Ef.app (H := .own f m e (.slice a' l.length c') l :: H1) het hf hone hbytes .here (fun w hw => hrd w (hw.sub (Sub.tl (Sub.refl _)))) (fun g => (hx g).trans hv) hy hd g w h2
end
/-- a cell of a list of small numbers -/
@[simp] def ucell (x : Int) : List Value := [.int .u8 x]
def natA (m : Nat) : List Int := (List.range m).map fun (i : Nat) => (i : Int)
theorem natA_len (m : Nat) : (natA m).length = m := by simp [natA]
theorem natA_succ (m : Nat) : natA m ++ [(m : Int)] = natA (m + 1) := by simp [natA, List.range_succ]
def anyK (x : List Int) (i m : Nat) : Nat := if x.length = 0 then 0 else (lx x (i % x.length) % (m : Int)).toNat
def cutL (l : List Int) (k : Nat) : List Int := l.take k ++ l.drop (k + 1)
/-- the addresses that are left, and the layout, after i items -/
def anyT (m : Nat) (x : List Int) : Nat → List Int × List Int
  | 0 => (natA m, [])
  | i + 1 => (cutL (anyT m x i).1 (anyK x i (anyT m x i).1.length), (anyT m x i).2 ++ [lx (anyT m x i).1 (anyK x i (anyT m x i).1.length)])
def lefT (m : Nat) (x : List Int) (i : Nat) : List Int := (anyT m x i).1
def outT (m : Nat) (x : List Int) (i : Nat) : List Int := (anyT m x i).2
def anyL (t : TD) (x : List Int) : List Int := outT (t.lines * 16).toNat x (t.os.length + t.data.toNat)
theorem lefT_succ {m : Nat} {x : List Int} {i k : Nat} (h : anyK x i (lefT m x i).length = k) : cutL (lefT m x i) k = lefT m x (i + 1) := by subst h; rfl
theorem outT_succ {m : Nat} {x : List Int} {i k : Nat} (h : anyK x i (lefT m x i).length = k) : outT m x i ++ [lx (lefT m x i) k] = outT m x (i + 1) := by subst h; rfl
theorem anyK_lt {x : List Int} {i m : Nat} (h : 0 < m) : anyK x i m < m := by
  unfold anyK
  split
  · exact h
  · have h1 := Int.emod_nonneg (lx x (i % x.length)) (b := (m : Int)) (by omega)
    have h2 := Int.emod_lt_of_pos (lx x (i % x.length)) (b := (m : Int)) (by omega)
    omega
theorem cutL_len {l : List Int} {k : Nat} (h : k < l.length) : (cutL l k).length + 1 = l.length := by unfold cutL; rw [List.length_append, List.length_take, List.length_drop]; omega
theorem anyT_len {m : Nat} {x : List Int} : ∀ i, i ≤ m → (lefT m x i).length + i = m ∧ (outT m x i).length = i
  | 0, _ => by simp [lefT, outT, anyT, natA_len]
  | i + 1, h => by
    obtain ⟨h2, h3⟩ := anyT_len (m := m) (x := x) i (by omega)
    rw [← lefT_succ rfl, ← outT_succ rfl]
    have hk := anyK_lt (x := x) (i := i) (m := (lefT m x i).length) (by omega)
    have := cutL_len hk
    rw [List.length_append, h3]
    refine ⟨by omega, rfl⟩
theorem wrap_rem {u : Int} {p : Nat} (hp : 0 < p) (hu : 0 ≤ u ∧ u ≤ 1000000) : u.tmod p = ((u % (p : Int)).toNat : Int) := by
  have h1 := Int.emod_nonneg u (b := (p : Int)) (by omega)
  rw [Int.tmod_eq_emod_of_nonneg hu.1, Int.toNat_of_nonneg h1]
theorem items_ref (t : TD) (w : World) (hn : t.Len) (hd : 0 ≤ t.data ∧ t.data ≤ 16) (ho : t.os.length ≤ 24) :
    Calls Try.prog 38 #[.agg #[.slice t.ao t.os.length t.co, .int .i64 t.data, .int .i64 t.lines, .slice t.ap t.ps.length t.cp]] w (fun e w' => e = .returned (.int .i64 ((t.os.length : Int) + t.data)) ∧ Below w.heap.size w w') := by
  refine go_in Try.func38 rfl Try.ntmps38 [] [] (Mem.start _) ?_
  refine go ?_
  refine GoL.a (fun b1 => ?_)
  refine go ?_
  exact ev1 rfl
theorem Any_v (t : TD) (x : List Int) (ax : Option Addr) (cx : Nat) (w : World) (hn : t.Len) (ho : 1 ≤ t.os.length ∧ t.os.length ≤ 24) (hd : 0 ≤ t.data ∧ t.data ≤ 16) (hl1 : 1 ≤ t.lines ∧ t.lines ≤ 8) (hit : (t.os.length : Int) + t.data ≤ t.lines * 16) (hx : Rd ucell 1 w ax x) (hxl : x.length ≤ 9223372036854775807) (hxb : ∀ a ∈ x, 0 ≤ a ∧ a ≤ 255) :
    Calls Try.prog 18 #[.agg #[.slice t.ao t.os.length t.co, .int .i64 t.data, .int .i64 t.lines, .slice t.ap t.ps.length t.cp], .slice ax x.length cx] w (Ret (fun q : Option Addr × Nat => .slice q.1 (anyL t x).length q.2) (fun q => [.own icell 1 3 (.slice q.1 (anyL t x).length q.2) (anyL t x)]) w) := by
  obtain ⟨m, hm⟩ : ∃ m : Nat, t.lines * 16 = m := ⟨(t.lines * 16).toNat, by omega⟩
  obtain ⟨n, hn2⟩ : ∃ n : Nat, (t.os.length : Int) + t.data = n := ⟨t.os.length + t.data.toNat, by omega⟩
  have hnm : n ≤ m := by omega
  have hA : anyL t x = outT m x n := by unfold anyL; rw [show (t.lines * 16).toNat = m by omega, show t.os.length + t.data.toNat = n by omega]
  have hmb : m ≤ 128 := by omega
  rw [hA]
  refine go_in Try.func18 rfl Try.ntmps18 [] [] (Mem.start _) ?_
  refine go ?_
  refine GoL.a (fun b2 => ?_)
  refine go ?_
  refine GoC.mem (fun w hw => Mem.own0 icell 1 3 (Mem.own0 icell 1 3 hw)) ?_
  refine go_loop (X := Nat × Option Addr × Nat) (fun y => y.1 ≤ m) (fun y => m - y.1) (fun y => [(7, .int .i64 y.1), (5, .slice y.2.1 (natA y.1).length y.2.2)])
    (fun y => [.cells b2 [.slice t.ao t.os.length t.co, .int .i64 t.data, .int .i64 t.lines, .slice t.ap t.ps.length t.cp], .own icell 1 3 (.slice y.2.1 (natA y.1).length y.2.2) (natA y.1), .own icell 1 3 (.slice none 0 0) []]) (0, none, 0) [1, 2, 4, 6] (Nat.zero_le _) (by simp [AgreeL, At, natA]) (by simp only [natA, List.range_zero, List.map_nil]; exact sb) (fun y hy => ?_)
  obtain ⟨k, a1, c1⟩ := y
  dsimp only at hy ⊢
  have hm1 := hid (natA_len k)
  refine go ?_
  refine go_if (fun h2 => ?_) (fun h2 => ?_)
  · have hk : k < m := by simpa using h2
    refine go ?_
    refine GoL.sl (Ef.lit (f := icell) (m := 1) (e := 3) [(k : Int)] (fun _ => rfl) rfl) (fun a3 c3 => ?_)
    refine go ?_
    refine GoL.sl (Ef.app (f := icell) (l := natA k) (l2 := [(k : Int)]) (v := .slice a1 (natA k).length c1) elI (fun _ => rfl) icell_one (by have := hm1.out; simp only [List.length_cons, List.length_nil]; omega) pk (fun w hw => hw.ownRd (l := [(k : Int)]) pk)) (fun a4 c4 => ?_)
    rw [natA_succ]
    refine go ?_
    exact go_again (k + 1, a4, c4) hk (by simp only; omega) (by simp [AgreeL, At]) sb
  obtain rfl : k = m := by have : ¬ k < m := by simpa using h2
                           omega
  clear h2 hm1
  refine go ?_
  refine go_loop (X := Nat × (Option Addr × Nat) × (Option Addr × Nat)) (fun y => y.1 ≤ n) (fun y => n - y.1) (fun y => [(8, .int .i64 y.1), (5, .slice y.2.1.1 (lefT k x y.1).length y.2.1.2), (6, .slice y.2.2.1 (outT k x y.1).length y.2.2.2)])
    (fun y => [.cells b2 [.slice t.ao t.os.length t.co, .int .i64 t.data, .int .i64 t.lines, .slice t.ap t.ps.length t.cp], .own icell 1 3 (.slice y.2.1.1 (lefT k x y.1).length y.2.1.2) (lefT k x y.1), .own icell 1 3 (.slice y.2.2.1 (outT k x y.1).length y.2.2.2) (outT k x y.1)]) (0, (a1, c1), (none, 0)) [1, 2, 4] (Nat.zero_le _) (by simp [AgreeL, At, lefT, outT, anyT]) (by simp only [lefT, outT, anyT]; exact sb) (fun y hy => ?_)
  obtain ⟨i, ⟨a3, c3⟩, a4, c4⟩ := y
  dsimp only at hy ⊢
  obtain ⟨hl2, ho2⟩ := anyT_len (m := k) (x := x) i (by omega)
  have hll := hid hl2
  have hlo := hid ho2
  clear hl2 ho2
  refine go ?_
  refine GoL.cv (fun w' hw => items_ref t w' hn hd ho.2) ?_
  rw [hn2]
  by_cases hin : i < n
  rotate_left
  · obtain rfl : i = n := by omega
    refine go ?_
    exact end1 (fun w' hw => ⟨(a4, c4), rfl, hw.done sb⟩)
  refine go ?_
  refine go_if (fun h => ?_) (fun h => ?_)
  rotate_left
  · exact absurd h (by have := hll.out; omega)
  have hp : 0 < (lefT k x i).length := by simpa using h
  clear h
  have hpi : (0 : Int) < (lefT k x i).length := by omega
  have hpz : ¬ ((lefT k x i).length : Int) = 0 := by omega
  have hkk := anyK_lt (x := x) (i := i) hp
  refine go ?_
  refine go_join [(1, .slice ax x.length cx), (2, .pointer (some ⟨b2, 0, none⟩)), (4, .slice none 0 0), (8, .int .i64 i), (5, .slice a3 (lefT k x i).length c3), (6, .slice a4 (outT k x i).length c4), (9, .int .i64 (anyK x i (lefT k x i).length))]
    [.cells b2 [.slice t.ao t.os.length t.co, .int .i64 t.data, .int .i64 t.lines, .slice t.ap t.ps.length t.cp], .own icell 1 3 (.slice a3 (lefT k x i).length c3) (lefT k x i), .own icell 1 3 (.slice a4 (outT k x i).length c4) (outT k x i)] ?_ ?_
  · refine go_if (fun h0 => ?_) (fun h0 => ?_)
    rotate_left
    · have hK : anyK x i (lefT k x i).length = 0 := by unfold anyK; rw [if_pos (by simpa using h0)]
      rw [hK]
      refine go ?_
      exact xj_n (by simp [AgreeL, At]) sb
    · have hx0 : 0 < x.length := by simpa using h0
      clear h0
      have h01 : ¬ (x.length : Int) = 0 := by omega
      have e1 := hid (wrap_rem (u := (i : Int)) hx0 (by omega))
      obtain ⟨j, hj, hj2⟩ : ∃ j : Nat, ((i : Int) % (x.length : Int)).toNat = j ∧ j = i % x.length := ⟨_, rfl, by rw [← Int.natCast_emod]; rfl⟩
      have hjl : j < x.length := by rw [hj2]; exact Nat.mod_lt _ hx0
      have hxj := hxb _ (lx_mem hjl)
      have hne1 := hid (show ¬ x = [] from fun e => by rw [e] at hx0; exact absurd hx0 (by decide))
      have hne2 := hid (show ¬ lefT k x i = [] from fun e => by rw [e] at hp; exact absurd hp (by decide))
      have e2 := hid (wrap_rem (u := lx x j) hp (by omega))
      have hK : anyK x i (lefT k x i).length = (lx x j % ((lefT k x i).length : Int)).toNat := by unfold anyK; rw [if_neg (by omega), hj2]
      rw [hK]
      replace e1 := hid (e1.out.trans (congrArg _ hj))
      replace hj := hid hj
      replace hj2 := hid hj2
      replace hK := hid hK
      have e3 := hid (show (i : Int) % (x.length : Int) = (j : Int) by rw [hj2.out, Int.natCast_emod])
      have e4 := hid (show lx x j % ((lefT k x i).length : Int) = ((lx x j % ((lefT k x i).length : Int)).toNat : Int) from (Int.toNat_of_nonneg (Int.emod_nonneg _ hpz)).symm)
      refine go ?_
      refine GoL.q ⟨.int .i64 (j : Int), Ex.q (h := by intro g w R hR; go_simp; rw [if_neg hne1.out]; first | (rw [e1.out]; exact hR) | (rw [e3.out]; exact hR)), ?_⟩
      refine go ?_
      refine GoL.q ⟨.int .i64 ((lx x j % ((lefT k x i).length : Int)).toNat : Int), Ex.q (h := by intro g w R hR; go_simp; rw [if_neg hne2.out]; first | (rw [e2.out]; exact hR) | (rw [← e4.out]; exact hR)), ?_⟩
      refine go ?_
      exact xj_n (by simp [AgreeL, At]) sb
  generalize hq : anyK x i (lefT k x i).length = q at hkk ⊢
  have hq3 : q < 128 := by have := hll.out; omega
  refine go ?_
  refine GoL.q ⟨_, Ex.ix (l := lefT k x i) (f := icell) (m := 1) (i := q) (hi := Int.toNat_natCast q) (hc := fun w hw => hw.ownRd pk), ?_⟩
  refine GoL.q ⟨_, Ex.rl (l := lefT k x i) (f := icell) (m := 1) (i := q) (hc := fun w hw => hw.ownRd pk), ?_⟩
  refine go ?_
  refine GoL.sl (Ef.lit (f := icell) (m := 1) (e := 3) [lx (lefT k x i) q] (fun _ => rfl) rfl) (fun a5 c5 => ?_)
  refine go ?_
  refine GoL.sl (Ef.app (f := icell) (l := outT k x i) (l2 := [lx (lefT k x i) q]) (v := .slice a4 (outT k x i).length c4) elI (fun _ => rfl) icell_one (by have := hlo.out; simp only [List.length_cons, List.length_nil]; omega) pk (fun w hw => hw.ownRd (l := [lx (lefT k x i) q]) pk)) (fun a6 c6 => ?_)
  rw [outT_succ hq]
  have hlo2 := hid (anyT_len (m := k) (x := x) (i + 1) (by omega)).2
  refine go ?_
  refine D.e0 [] [] (fun X F => Ef.lit (f := icell) (m := 1) (e := 3) [] (fun _ => rfl) rfl) ?_
  refine go ?_
  refine D.e0 [] [0] (fun X F => Ef.appU (f := icell) (m := 1) (e := 3) (l := []) (l2 := (lefT k x i).take q) elI (fun _ => rfl) icell_one (by have := hll.out; simp only [List.length_nil, List.length_take]; omega) Pick.here (fun w hw => (hw.ownRd (l := lefT k x i) pk).take q)) ?_
  refine go ?_
  rw [show ((q : Int) + 1).toNat = q + 1 by omega]
  refine D.nil [(4, fun X => .sl icell 1 3 ((lefT k x i).take q) (X 4))] (fun X => GoL.slo fun a7 c7 hv => ?_) (hchk := by show chkDD _ _ 0 [4] = true; decide +kernel)
  refine GoL.fact (p := (lefT k x i).length ≤ c3) (fun w hw => (hw.own (l := lefT k x i) pk).cap) (fun hcap => ?_)
  replace hcap := hid hcap
  rw [show (0 + 1 + 1 + 1 + 1 : Nat) = 4 from rfl, hv]
  clear hv
  refine GoL.sl (Ef.app (f := icell) (l := (lefT k x i).take q) (l2 := (lefT k x i).drop (q + 1)) (v := .slice a7 ((lefT k x i).take q).length c7) elI (fun _ => rfl) icell_one (by have := hll.out; simp only [List.length_drop, List.length_take]; omega) pk (fun w hw => (hw.ownRd (l := lefT k x i) pk).drop (q + 1) hcap.out)) (fun a8 c8 => ?_)
  rw [show (lefT k x i).take q ++ (lefT k x i).drop (q + 1) = lefT k x (i + 1) from lefT_succ hq]
  refine go ?_
  exact go_again (i + 1, (a8, c8), (a6, c6)) hin (by simp only; omega) (by simp [AgreeL, At]) sb
end

section
set_option linter.all false
set_option pp.maxSteps 100000
set_option maxRecDepth 100000
set_option maxHeartbeats 4000000
open Go.RowKit

theorem elPa : ElemT Try.prog 26 49 2 32 := ElemT.mk' (z := .agg #[.slice none 0 0, .int .i64 0]) Try.underlying26 (by kernel_rfl) rfl
theorem pthR_one (p : PthR) : ∀ u ∈ p.cs, u.oneCell' = true := by intro u hu; simp at hu; rcases hu with rfl | rfl <;> rfl
/-- a task with other paths -/
def TD.withP (t : TD) (qs : List PthR) (a : Option Addr) (c : Nat) : TD := ⟨t.os, t.data, t.lines, qs, t.ao, t.co, a, c⟩
theorem TD.withP_at {t : TD} {qs : List PthR} {a : Option Addr} {c : Nat} {w : World} (hT : t.At w) (hR : Rd PthR.cs 2 w a qs) (h : ∀ x ∈ qs, ∃ y ∈ t.ps, x.a = y.a ∧ x.os = y.os) : (t.withP qs a c).At w :=
  ⟨hT.o, hR, fun x hx => by obtain ⟨y, hy, h1, h2⟩ := h x hx; rw [h1, h2]; exact hT.q y hy⟩
theorem TD.withP_len {t : TD} {qs : List PthR} {a : Option Addr} {c : Nat} (hn : t.Len) (hl : qs.length ≤ 9223372036854775807) (h : ∀ x ∈ qs, ∃ y ∈ t.ps, x.c = y.c ∧ x.os = y.os) : (t.withP qs a c).Len :=
  ⟨hn.o, hl, fun x hx => by obtain ⟨y, hy, h1, h2⟩ := h x hx; rw [h1, h2]; exact hn.q y hy⟩
theorem cost_ps (t : TD) (qs : List PthR) (a : Option Addr) (c : Nat) (lay : List Int) (al : Option Addr) (cl : Nat) (w : World) (hn : (t.withP qs a c).Len) (hT : (t.withP qs a c).At w) (hl : Rd icell 1 w al lay) (hll : lay.length ≤ 9223372036854775807 ∧ lay.length ≤ cl) {n e : Int} (hr : costR (t.withP qs none 0) lay = (n, e)) :
    Calls Try.prog 8 #[.agg #[.slice t.ao t.os.length t.co, .int .i64 t.data, .int .i64 t.lines, .slice a qs.length c], .slice al lay.length cl] w (fun e' w' => e' = .returned (.tuple #[.int .i64 n, .int .i64 e]) ∧ Below w.heap.size w w') := by
  have := Cost_v (t.withP qs a c) lay al cl w hn hT hl hll
  rw [show costR (t.withP qs a c) lay = costR (t.withP qs none 0) lay from rfl, hr] at this
  exact this
theorem pairs_ps (t : TD) (qs : List PthR) (a : Option Addr) (c : Nat) : ∀ n, pairsTo (t.withP qs a c) n = pairsTo (t.withP qs none 0) n
  | 0 => rfl
  | n + 1 => by rw [pairsTo, pairsTo, pairs_ps t qs a c n]; rfl
theorem bound_ps (t : TD) (qs : List PthR) (a : Option Addr) (c : Nat) (w : World) (hn : (t.withP qs a c).Len) (hT : (t.withP qs a c).At w) {p i : Int} (hr : chkL (t.withP qs none 0) = (p, i, 0)) :
    Calls Try.prog 10 #[.agg #[.slice t.ao t.os.length t.co, .int .i64 t.data, .int .i64 t.lines, .slice a qs.length c]] w (Ret (fun q : Option Addr × Nat => .tuple #[.slice q.1 (boundL (t.withP qs none 0)).length q.2, .int .i64 (boundN (t.withP qs none 0)), .int .i64 0]) (fun q => [.rd LaP.cs 3 q.1 (boundL (t.withP qs none 0))]) w) := by
  have h := Bound_ok (t.withP qs a c) p i w hn hT hr
  rw [show boundL (t.withP qs a c) = boundL (t.withP qs none 0) from congrArg srtP (pairs_ps t qs a c _), show boundN (t.withP qs a c) = boundN (t.withP qs none 0) by rw [boundN_sum, boundN_sum]; rfl] at h
  exact h
theorem bound_ps_bad (t : TD) (qs : List PthR) (a : Option Addr) (c : Nat) (w : World) (hn : (t.withP qs a c).Len) (hT : (t.withP qs a c).At w) {p i e : Int} (hr : chkL (t.withP qs none 0) = (p, i, e)) (he : ¬ e = 0) :
    Calls Try.prog 10 #[.agg #[.slice t.ao t.os.length t.co, .int .i64 t.data, .int .i64 t.lines, .slice a qs.length c]] w (fun e' w' => e' = .returned (.tuple #[.slice none 0 0, .int .i64 0, .int .i64 e]) ∧ Below w.heap.size w w') :=
  Bound_bad (t.withP qs a c) p i e w hn hT hr he
/- the paths -/
def lessP (ps : List PthR) (k : Nat) : List PthR := ps.take k ++ ps.drop (k + 1)
def takeP (ps : List PthR) (k : Nat) : List PthR := ps.take k
def dropP (ps : List PthR) (k : Nat) : List PthR := ps.drop k
def moreP (n : Int) (ps : List PthR) (i : Nat) : List PthR := (ps.take i).map (timesP n)
theorem moreP_len {n : Int} {ps : List PthR} {i : Nat} (h : i ≤ ps.length) : (moreP n ps i).length = i := by unfold moreP; rw [List.length_map, List.length_take]; omega
theorem moreP_succ {n : Int} {ps : List PthR} {i : Nat} (h : i < ps.length) : moreP n ps i ++ [timesP n (lx ps i)] = moreP n ps (i + 1) := by unfold moreP; rw [List.take_succ, lx_some h]; simp
theorem moreP_all {n : Int} {ps : List PthR} : moreP n ps ps.length = ps.map (timesP n) := by unfold moreP; rw [List.take_length]
theorem lessP_len {ps : List PthR} {k : Nat} (h : k < ps.length) : (lessP ps k).length + 1 = ps.length := by unfold lessP; rw [List.length_append, List.length_take, List.length_drop]; omega
theorem lessP_mem {ps : List PthR} {k : Nat} {x : PthR} (h : x ∈ lessP ps k) : x ∈ ps := by
  rcases List.mem_append.1 h with h | h
  · exact List.mem_of_mem_take h
  · exact List.mem_of_mem_drop h
theorem moreP_mem {n : Int} {ps : List PthR} {i : Nat} {x : PthR} (h : x ∈ moreP n ps i) : ∃ y ∈ ps, x.a = y.a ∧ x.c = y.c ∧ x.os = y.os := by
  obtain ⟨y, hy, rfl⟩ := List.mem_map.1 h
  exact ⟨y, List.mem_of_mem_take hy, rfl, rfl, rfl⟩
theorem less_res {t : TD} (ht : t.Ok) {lay : List Int} (hl : layL t lay = 0) {k : Nat} (hk : k < t.ps.length) :
    ∃ n, costR (t.withP (lessP t.ps k) none 0) lay = (n, 0) ∧ chkL (t.withP (lessP t.ps k) none 0) = (0, 0, 0) ∧ 0 ≤ n ∧ n ≤ costL t lay ∧ boundN (t.withP (lessP t.ps k) none 0) ≤ boundN t := by
  have hok : (t.withP (lessP t.ps k) none 0).Ok := ok_less ht hk rfl rfl rfl rfl
  have hc := chkL_mk hok
  have hcn : ∀ p ∈ t.ps, 0 ≤ costP t.os lay p ∧ 0 ≤ bndP t.os p := fun p hp => by
    have h1 := wildL_ok (ht.w p hp)
    have h2 := pathE_len t.os p.os h1.1.2
    have h3 := pathT_bd (lay := lay) (l := pathE t.os p.os) (fun v hv => (pathE_item ht hp v hv).2.2) (by omega)
    have h4 := Dv_bd (it := fun k => (lx (pathE t.os p.os) k).item) (y := (pathE t.os p.os).length - 1) (by omega) 0
    exact ⟨Int.mul_nonneg (by omega) h3.1, Int.mul_nonneg (by omega) h4.1⟩
  refine ⟨costL (t.withP (lessP t.ps k) none 0) lay, ?_, hc, (costL_nn hok lay).1, ?_, ?_⟩
  · unfold costR
    rw [hc, if_neg (by simp), if_neg (by rw [show layL (t.withP (lessP t.ps k) none 0) lay = layL t lay from rfl, hl]; simp)]
  · rw [costL_sum, costL_sum]; exact sumP_less (fun p hp => (hcn p hp).1) hk
  · rw [boundN_sum, boundN_sum]; exact sumP_less (fun p hp => (hcn p hp).2) hk
theorem more_res {t : TD} (ht : t.Ok) {lay : List Int} (hl : layL t lay = 0) (n : Int) :
    (costR (t.withP (t.ps.map (timesP n)) none 0) lay = (0, 7) ∧ ∃ p i, chkL (t.withP (t.ps.map (timesP n)) none 0) = (p, i, 7)) ∨
    (costR (t.withP (t.ps.map (timesP n)) none 0) lay = (costL t lay * n, 0) ∧ chkL (t.withP (t.ps.map (timesP n)) none 0) = (0, 0, 0) ∧ boundN (t.withP (t.ps.map (timesP n)) none 0) = boundN t * n) := by
  rcases ok_more (t' := t.withP (t.ps.map (timesP n)) none 0) ht (n := n) rfl rfl rfl rfl with hok | h7
  · have hc := chkL_mk hok
    refine .inr ⟨?_, hc, ?_⟩
    · unfold costR
      rw [hc, if_neg (by simp), if_neg (by rw [show layL (t.withP (t.ps.map (timesP n)) none 0) lay = layL t lay from rfl, hl]; simp), costL_sum, costL_sum]
      exact congrArg (·, 0) (sumP_times fun p _ => costP_times t.os lay n p)
    · rw [boundN_sum, boundN_sum]; exact sumP_times fun p _ => bndP_times t.os n p
  · refine .inl ⟨?_, ?_⟩
    · unfold costR; rw [if_pos (by rw [h7]; decide), h7]
    · generalize chkL (t.withP (t.ps.map (timesP n)) none 0) = q at h7
      obtain ⟨p, i, e⟩ := q
      simp only at h7
      exact ⟨p, i, by rw [h7]⟩
theorem bound_bd {t : TD} (ht : t.Ok) : 0 ≤ boundN t ∧ boundN t ≤ 16000000 := by
  have := boundTo_bd (t := t) t.ps.length fun i hi => by
    unfold evsE openE
    rw [lx_map hi]
    have hc := wildL_ok (ht.w _ (lx_mem hi))
    have := pathE_len t.os (lx t.ps i).os hc.1.2
    omega
  have hp := ht.p1
  unfold boundN
  omega
end

section
set_option linter.all false
set_option pp.maxSteps 100000
set_option maxRecDepth 100000
set_option maxHeartbeats 4000000
open Go.RowKit

theorem less_walk (t : TD) (lay : List Int) (al : Option Addr) (cl : Nat) (x0 x1 : Int) (w : World) (hn : t.Len) (hT : t.At w) (hl : Rd icell 1 w al lay) (hll : lay.length ≤ 9223372036854775807 ∧ lay.length ≤ cl) (hcp : t.ps.length ≤ t.cp) (b0 : 0 ≤ x0 ∧ x0 ≤ 255) (b1 : 0 ≤ x1 ∧ x1 ≤ 255) :
    Calls Try.prog 6 #[.agg #[.slice t.ao t.os.length t.co, .int .i64 t.data, .int .i64 t.lines, .slice t.ap t.ps.length t.cp], .slice al lay.length cl, .agg #[.int .u8 x0, .int .u8 x1]] w (fun e w' => e = .returned (.bool true) ∧ Below w.heap.size w w') := by
  obtain ⟨⟨p, i, e⟩, hr⟩ : ∃ q : Int × Int × Int, q = chkL t := ⟨_, rfl⟩
  refine go_in Try.func6 rfl Try.ntmps6 [] [] (Mem.start _) ?_
  refine go ?_
  refine GoL.a (fun b3 => ?_)
  refine go ?_
  refine GoL.a (fun b5 => ?_)
  refine go ?_
  refine GoL.cv (fun w' hw => Cost_v t lay al cl w' hn (hT.old hw) (hw.old hl) hll) ?_
  by_cases he : e = 0
  rotate_left
  · have hc : costR t lay = (0, e) := by unfold costR; rw [← hr, if_pos he]
    rw [hc]
    clear hc
    have he2 : (e != 0) = true := by simpa using he
    refine go ?_
    refine GoL.cv (fun w' hw => Bound_bad t p i e w' hn (hT.old hw) hr.symm he) ?_
    refine go ?_
    refine GoL.cv (fun w' hw => awake_v w') ?_
    refine go ?_
    exact ev1 rfl
  subst he
  have htok := chkL_ok hr.symm
  rcases costR_cases t lay with ⟨e, he, hR⟩ | ⟨hc, hL, hR⟩
  · rw [hR]
    clear hR
    have he2 : (e != 0) = true := by simpa using he
    refine go ?_
    refine GoL.c (fun w' hw => Bound_ok t p i w' hn (hT.old hw) hr.symm) (fun r9 => ?_)
    refine go ?_
    refine GoL.cv (fun w' hw => awake_v w') ?_
    refine go ?_
    exact ev1 rfl
  rw [hR]
  clear hR
  refine go ?_
  refine GoL.c (fun w' hw => Bound_ok t p i w' hn (hT.old hw) hr.symm) (fun r9 => ?_)
  refine go ?_
  refine go_if (fun h => ?_) (fun h => ?_)
  · refine go ?_
    refine GoL.cv (fun w' hw => awake_v w') ?_
    refine go ?_
    exact ev1 rfl
  have hp1 : 0 < t.ps.length := by omega
  have hz : ¬ (t.ps.length : Int) = 0 := by omega
  have hz2 : (0 : Int) < t.ps.length := by omega
  have hp8 := htok.p1
  have hw1 : IntKind.i64.wrap (x0.tmod t.ps.length) = x0 % t.ps.length := by
    have h1 := Int.emod_nonneg x0 hz
    have h2 := Int.emod_lt_of_pos x0 hz2
    rw [Int.tmod_eq_emod_of_nonneg (by omega)]
    exact IntWalk.i64_in _ (by omega)
  refine go ?_
  have hne := hid (show ¬ t.ps = [] from fun e => by rw [e] at hp1; exact absurd hp1 (by decide))
  refine D.q ⟨.int .i64 (x0 % t.ps.length), fun X F => Ex.q (h := by intro g w R hR; go_simp; rw [if_neg hne.out]; first | exact hR | (rw [Int.tmod_eq_emod_of_nonneg (by omega)]; exact hR)), ?_⟩
  refine go ?_
  refine D.al ?_
  refine D.al ?_
  refine D.s (A := fun dp _ => .ptr (dp.headD undef) [.slice t.ao t.os.length t.co, .int .i64 t.data, .int .i64 t.lines, .slice t.ap t.ps.length t.cp]) [2] [] [2] (fun X F => Ef.st (off := 0) Pick.here (hl := rfl)) ?_
  refine D.nil [(4, fun X => .ptr (X 2) [.slice t.ao t.os.length t.co, .int .i64 t.data, .int .i64 t.lines, .slice t.ap t.ps.length t.cp]), (3, fun X => .ptr (X 3) [.slice none 0 0, .int .i64 0, .int .i64 0, .slice none 0 0])] (fun X => GoL.ptr fun b14 hX6 => ?_) (hchk := (by show chkDD _ _ 0 [4, 3] = true; decide +kernel))
  refine GoL.mem (H' := .ptr (X 3) [.slice none 0 0, .int .i64 0, .int .i64 0, .slice none 0 0] :: [.cells b14 [.slice t.ao t.os.length t.co, .int .i64 t.data, .int .i64 t.lines, .slice t.ap t.ps.length t.cp], .cells b5 [.int .u8 x0, .int .u8 x1], .cells b3 [.slice t.ao t.os.length t.co, .int .i64 t.data, .int .i64 t.lines, .slice t.ap t.ps.length t.cp]]) (fun w hw => hw.sub sb) ?_
  refine GoL.ptr fun b15 hX => ?_
  rw [hX6, hX]
  clear hX hX6 X
  have hk : 0 ≤ x0 % (t.ps.length : Int) ∧ x0 % (t.ps.length : Int) < t.ps.length := ⟨Int.emod_nonneg x0 hz, Int.emod_lt_of_pos x0 hz2⟩
  refine go ?_
  have HK : Hid (x0 % (t.ps.length : Int) = ((x0 % (t.ps.length : Int)).toNat : Int)) := hid (by omega)
  generalize hkk : (x0 % (t.ps.length : Int)).toNat = k at HK
  have hkl : k < t.ps.length := by omega
  rw [HK.out]
  clear HK hk hkk
  have hk9 : k ≤ 8 := by omega
  refine D.e0 [] [] (fun X F => Ef.lit (f := PthR.cs) (m := 2) (e := 49) [] (fun _ => rfl) rfl) ?_
  refine go ?_
  refine D.e0 [] [0] (fun X F => Ef.appU (f := PthR.cs) (m := 2) (e := 49) (l := []) (l2 := t.ps.take k) elPa (fun _ => rfl) pthR_one (by simp only [List.length_nil, List.length_take]; omega) Pick.here (fun w hw => (hT.old hw).p.take k)) ?_
  refine go ?_
  rw [show ((k : Int) + 1).toNat = k + 1 by omega]
  refine D.nil [(5, fun X => .sl PthR.cs 2 49 (t.ps.take k) (X 5))] (fun X => GoL.slo fun a7 c7 hv => ?_) (hchk := by show chkDD _ _ 0 [5] = true; decide +kernel)
  rw [show (0 + 1 + 1 + 1 + 1 + 1 : Nat) = 5 from rfl, hv]
  clear hv
  refine GoL.sl (Ef.app (f := PthR.cs) (l := t.ps.take k) (l2 := t.ps.drop (k + 1)) (v := .slice a7 (t.ps.take k).length c7) elPa (fun _ => rfl) pthR_one (by simp only [List.length_drop, List.length_take]; omega) pk (fun w hw => (hT.old hw).p.drop (k + 1) hcp)) (fun a8 c8 => ?_)
  rw [show t.ps.take k ++ t.ps.drop (k + 1) = lessP t.ps k from rfl]
  have hll2 := hid (lessP_len hkl)
  refine go ?_
  refine GoC.mem (fun w hw => Mem.own0 PthR.cs 2 49 hw) ?_
  refine go_loop (X := Nat × Option Addr × Nat) (fun y => y.1 ≤ t.ps.length) (fun y => t.ps.length - y.1) (fun y => [(16, .int .i64 y.1)])
    (fun y => [.cells b15 [.slice t.ao t.os.length t.co, .int .i64 t.data, .int .i64 t.lines, .slice y.2.1 (moreP (1 + x1) t.ps y.1).length y.2.2], .own PthR.cs 2 49 (.slice y.2.1 (moreP (1 + x1) t.ps y.1).length y.2.2) (moreP (1 + x1) t.ps y.1),
      .cells b14 [.slice t.ao t.os.length t.co, .int .i64 t.data, .int .i64 t.lines, .slice a8 (lessP t.ps k).length c8], .own PthR.cs 2 49 (.slice a8 (lessP t.ps k).length c8) (lessP t.ps k), .cells b3 [.slice t.ao t.os.length t.co, .int .i64 t.data, .int .i64 t.lines, .slice t.ap t.ps.length t.cp]]) (0, none, 0) [1, 3, 7, 10, 13, 14, 15] (Nat.zero_le _) (by simp [AgreeL, At, moreP]) (by simp only [moreP, List.take_zero, List.map_nil]; exact sb) (fun y hy => ?_)
  obtain ⟨j, a9, c9⟩ := y
  dsimp only at hy ⊢
  have hml := hid (moreP_len (n := 1 + x1) hy)
  refine go ?_
  refine go_if (fun h2 => ?_) (fun h2 => ?_)
  · have hj : j < t.ps.length := by omega
    have hcn := (wildL_ok (htok.w _ (lx_mem hj))).2.1
    have hm1 : 1 * 1 ≤ (lx t.ps j).cnt * (1 + x1) ∧ (lx t.ps j).cnt * (1 + x1) ≤ 1000 * 256 := ⟨Int.mul_le_mul hcn.1 (by omega) (by omega) (by omega), Int.mul_le_mul hcn.2 (by omega) (by omega) (by omega)⟩
    have hm2 : 1 ≤ (lx t.ps j).cnt * (1 + x1) ∧ (lx t.ps j).cnt * (1 + x1) ≤ 256000 := ⟨hm1.1, hm1.2⟩
    clear hm1
    have hTp := hT.p
    refine go ?_
    refine GoL.a (fun b17 => ?_)
    refine go ?_
    refine GoL.sl (Ef.lit (f := PthR.cs) (m := 2) (e := 49) [timesP (1 + x1) (lx t.ps j)] (fun _ => rfl) rfl) (fun a10 c10 => ?_)
    refine go ?_
    refine GoL.sl (Ef.app (f := PthR.cs) (l := moreP (1 + x1) t.ps j) (l2 := [timesP (1 + x1) (lx t.ps j)]) (v := .slice a9 (moreP (1 + x1) t.ps j).length c9) elPa (fun _ => rfl) pthR_one (by have := hml.out; simp only [List.length_cons, List.length_nil]; omega) pk (fun w hw => hw.ownRd (l := [timesP (1 + x1) (lx t.ps j)]) pk)) (fun a11 c11 => ?_)
    rw [moreP_succ hj]
    refine go ?_
    exact go_again (j + 1, a11, c11) hj (by simp only; omega) (by simp [AgreeL, At]) sb
  obtain rfl : j = t.ps.length := by omega
  obtain ⟨m, m1, m2, m3, m4, m5⟩ := less_res htok hL hkl
  have hlenL := hid (show (lessP t.ps k).length ≤ 9223372036854775807 by have := hll2.out; omega)
  have hm1 := hid m1
  have hm2 := hid m2
  clear m1 m2
  have hcb := costL_nn htok lay
  have hbb := bound_bd htok
  refine go ?_
  refine GoL.cv (fun w' hw => cost_ps t (lessP t.ps k) a8 c8 lay al cl w' (TD.withP_len hn hlenL.out fun x hx => ⟨x, lessP_mem hx, rfl, rfl⟩) (TD.withP_at (hT.old hw) (hw.ownRd (l := lessP t.ps k) pk) fun x hx => ⟨x, lessP_mem hx, rfl, rfl⟩) (hw.old hl) hll hm1.out) ?_
  refine go ?_
  refine GoL.c (fun w' hw => bound_ps t (lessP t.ps k) a8 c8 w' (TD.withP_len hn hlenL.out fun x hx => ⟨x, lessP_mem hx, rfl, rfl⟩) (TD.withP_at (hT.old hw) (hw.ownRd (l := lessP t.ps k) pk) fun x hx => ⟨x, lessP_mem hx, rfl, rfl⟩) hm2.out) (fun r12 => ?_)
  generalize boundN (t.withP (lessP t.ps k) none 0) = c at m5 ⊢
  have m6 : ¬ costL t lay < m := by omega
  have m7 : ¬ boundN t < c := by omega
  refine go ?_
  have hmle : (moreP (1 + x1) t.ps t.ps.length).length ≤ 9223372036854775807 := by have := hml.out; omega
  have hML := hid hmle
  clear hmle
  have hmm : ∀ x ∈ moreP (1 + x1) t.ps t.ps.length, (∃ y ∈ t.ps, x.a = y.a ∧ x.os = y.os) ∧ ∃ y ∈ t.ps, x.c = y.c ∧ x.os = y.os := fun x hx => by
    obtain ⟨y, h1, h2, h3, h4⟩ := moreP_mem hx
    exact ⟨⟨y, h1, h2, h4⟩, ⟨y, h1, h3, h4⟩⟩
  rcases more_res htok hL (1 + x1) with ⟨r1, p', i', r2⟩ | ⟨r1, r2, r3⟩
  · rw [← moreP_all] at r1 r2
    have R1 := hid r1
    have R2 := hid r2
    clear r1 r2
    refine GoL.cv (fun w' hw => cost_ps t (moreP (1 + x1) t.ps t.ps.length) a9 c9 lay al cl w' (TD.withP_len hn hML.out fun x hx => (hmm x hx).2) (TD.withP_at (hT.old hw) (hw.ownRd (l := moreP (1 + x1) t.ps t.ps.length) pk) fun x hx => (hmm x hx).1) (hw.old hl) hll R1.out) ?_
    refine go ?_
    refine GoL.cv (fun w' hw => bound_ps_bad t (moreP (1 + x1) t.ps t.ps.length) a9 c9 w' (TD.withP_len hn hML.out fun x hx => (hmm x hx).2) (TD.withP_at (hT.old hw) (hw.ownRd (l := moreP (1 + x1) t.ps t.ps.length) pk) fun x hx => (hmm x hx).1) R2.out (by decide)) ?_
    refine go ?_
    refine GoL.cv (fun w' hw => awake_v w') ?_
    refine go ?_
    exact ev1 rfl
  · rw [← moreP_all] at r1 r2 r3
    have R1 := hid r1
    have R2 := hid r2
    clear r1 r2
    have q1 : 0 ≤ costL t lay * (1 + x1) ∧ costL t lay * (1 + x1) ≤ 24000000 * 256 := ⟨Int.mul_nonneg hcb.1 (by omega), Int.mul_le_mul hcb.2 (by omega) (by omega) (by omega)⟩
    have q2 : 0 ≤ boundN t * (1 + x1) ∧ boundN t * (1 + x1) ≤ 16000000 * 256 := ⟨Int.mul_nonneg hbb.1 (by omega), Int.mul_le_mul hbb.2 (by omega) (by omega) (by omega)⟩
    refine GoL.cv (fun w' hw => cost_ps t (moreP (1 + x1) t.ps t.ps.length) a9 c9 lay al cl w' (TD.withP_len hn hML.out fun x hx => (hmm x hx).2) (TD.withP_at (hT.old hw) (hw.ownRd (l := moreP (1 + x1) t.ps t.ps.length) pk) fun x hx => (hmm x hx).1) (hw.old hl) hll R1.out) ?_
    refine go ?_
    refine GoL.c (fun w' hw => bound_ps t (moreP (1 + x1) t.ps t.ps.length) a9 c9 w' (TD.withP_len hn hML.out fun x hx => (hmm x hx).2) (TD.withP_at (hT.old hw) (hw.ownRd (l := moreP (1 + x1) t.ps t.ps.length) pk) fun x hx => (hmm x hx).1) R2.out) (fun r13 => ?_)
    rw [r3]
    clear r3
    refine go ?_
    refine GoL.cv (fun w' hw => awake_v w') ?_
    refine go ?_
    exact ev1 rfl
end

section

open Go.ChangeShapes Go.WideShapes Go.ChangeAt Go.RowKit Go.Deep

section
variable {H : Type} {enc : TypeId × Value → H} {P : Program} {w : World} {spare : Nat → Bool}

/-- a slice whose elements each read as some α with cells f -/
theorem open_rows {α : Type} [Inhabited α] {f : α → List Value} {m : Nat} {t e : TypeId} {ok : α → Prop} {fuel : Nat} {cs : List Value} {x : DataW H × List MemPlace} (ht : P.underlying t = some (.slice e)) (hC : P.cellsOf e = m)
    (hel : ∀ (n : Nat) (cs' : List Value) (z : DataW H × List MemPlace), cs'.length = m → DataW.trod enc P w 0 spare true n e cs' = some z → ∃ y : α, cs' = f y ∧ ok y) (hm : 0 < m) (h : DataW.trod enc P w 0 spare true fuel t cs = some x) (hlt : ∀ p ∈ x.2, p.block < w.heap.size) :
    ∃ a c, ∃ l : List α, cs = [.slice a l.length c] ∧ Rd f m w a l ∧ l.length ≤ maxLen ∧ ∀ y ∈ l, ok y := by
  rcases open_slice ht h with ⟨rfl, _⟩ | ⟨a, len, cap, m', n, D, Pl, rfl, _, hl, hcap, hm', rfl, hi⟩
  · exact ⟨none, 0, [], rfl, .inl rfl, Nat.zero_le _, fun y hy => by cases hy⟩
  · rw [hC] at hi
    have hle : len ≤ m' := by rw [hm']; split <;> omega
    have hex : ∀ i, i < len → ∃ y : α, (∀ j v, (f y)[j]? = some v → w.cell? (a.add (i * m + j)) = some v) ∧ (f y).length = m ∧ ok y := by
      intro i hilt
      obtain ⟨cs', hc, htr⟩ := hi i (by omega)
      obtain ⟨_, hlen, hcell⟩ := World.cells?_some hc
      obtain ⟨y, rfl, hok⟩ := hel n cs' _ hlen htr
      refine ⟨y, fun j v hv => ?_, hlen, hok⟩
      have hj : j < m := by
        rcases Nat.lt_or_ge j m with h | h
        · exact h
        · rw [List.getElem?_eq_none (by omega)] at hv; cases hv
      rw [← Go.Deep.add_add, hcell j hj, hv]
    obtain ⟨g, hg⟩ := choose_lt hex
    refine ⟨some a, cap, (List.range len).map g, by simp, ?_, by simp; omega, fun y hy => ?_⟩
    · by_cases h0 : len = 0
      · subst h0; exact .inl rfl
      · have h00 := hg 0 (by omega)
        obtain ⟨b, off, spot⟩ := a
        have hz : ∃ v, (f (g 0))[0]? = some v := ⟨_, List.getElem?_eq_getElem (by rw [h00.2.1]; exact hm)⟩
        obtain ⟨v0, hv0⟩ := hz
        have hc0 := h00.1 0 v0 hv0
        have hspot : spot = none := by simpa [Addr.add] using World.cell?_spot hc0
        subst hspot
        refine .inr ⟨b, off, rfl, ?_, fun i y hy j v hv => ?_⟩
        · have : MemPlace.cell b off ∈ MemPlace.row ⟨b, off, none⟩ (m' * P.cellsOf e) ++ (List.range m').flatMap Pl := by
            refine List.mem_append_left _ ?_
            have hpos : 0 < m' * P.cellsOf e := Nat.mul_pos (by omega) (by omega)
            simp only [MemPlace.row, List.mem_map, List.mem_range]
            exact ⟨0, hpos, by simp⟩
          exact hlt _ this
        · have hil : i < len := by
            rcases Nat.lt_or_ge i len with h | h
            · exact h
            · rw [List.getElem?_eq_none (by simpa using h)] at hy; cases hy
          rw [List.getElem?_eq_getElem (by simpa using hil)] at hy
          obtain rfl : g i = y := by simpa using hy
          have := (hg i hil).1 j v hv
          rw [Go.WideShapes.add_plain] at this
          rw [Nat.add_assoc]; exact this
    · obtain ⟨i, hi', rfl⟩ := List.mem_map.1 hy
      exact (hg i (by simpa using hi')).2.2
end

/-- THE POST of a law that leaves old memory alone. -/
theorem trodAll_below {H : Type} {enc : TypeId × Value → H} {P : Program} {W W' : World} (hl : laidOutB P = true) (hb : Below W.heap.size W W') {sp : Nat → Bool} : ∀ {ts : List TypeId} {vs : List Value} {ds : List (DataW H)} {ps : List MemPlace},
    (∀ t ∈ ts, P.readableRec t = true ∧ t < P.types.size) → DataW.TrodAll enc P W 0 (fun _ => true) true ts vs ds ps → (∀ p ∈ ps, p.block < W.heap.size) → (∀ p ∈ ps, sp p.block = true) → DataW.TrodAll enc P W' 0 sp true ts vs ds ps
  | [], [], [], _, _, h, _, _ => h
  | _ :: _, _ :: _, _ :: _, _, hT, ⟨p, q, h1, h2, e⟩, hlt, hs => by
    subst e
    refine ⟨p, q, WideElems.Trod_stays hl (hT _ (by simp)).1 (hT _ (by simp)).2 h1 (fun x hx => hb.same (hlt x (by simp [hx]))) (fun x hx => hs x (by simp [hx])), trodAll_below hl hb (fun t ht => hT t (by simp [ht])) h2 (fun x hx => hlt x (by simp [hx])) (fun x hx => hs x (by simp [hx])), rfl⟩

theorem post_law {H : Type} {enc : TypeId × Value → H} {P : Program} {f : Func} {s : ChangeSpec} {apart : Bool} {W W' : World} {args : Array Value} {ds : List (DataW H)} {before : List MemPlace} {tb : TypeId}
    (hl : laidOutB P = true) (hr : ∀ t ∈ f.params.toList, P.readableRec t = true ∧ t < P.types.size) (hres : f.resultTypes = #[tb]) (hbool : P.underlying tb = some .bool)
    (hW : DataW.Whole enc P f.params.toList s.vars apart W args.toList ds [] before) (hvs : s.vars = []) (hfn : s.fn H ds = { results := [.lit (.bool true)], args := ds }) (hb : Below W.heap.size W W') :
    s.post enc P f apart true false false W args (.bool true) W' := by
  have hlt : ∀ p ∈ before, p.block < W.heap.size := fun p hp => hW.lt p hp
  have hfn' : s.fn H (ds ++ []) = { results := [.lit (.bool true)], args := ds } := by rw [List.append_nil]; exact hfn
  have hW0 := hW
  obtain ⟨pa, pv, hA, hV, hps, hz, hn⟩ := hW
  rw [hvs] at hV
  obtain ⟨_, rfl⟩ := trodVars_none hV
  simp only [List.append_nil] at hps
  subst hps
  have hargs : ∀ sp : Nat → Bool, (∀ p ∈ before, sp p.block = true) → DataW.TrodAll enc P W' 0 sp true f.params.toList args.toList ds before := fun sp hsp => trodAll_below hl hb hr hA hlt hsp
  have hresl : ∀ (b : Nat) (sp : Nat → Bool) (hd : Bool), DataW.TrodAll enc P W' b sp hd f.resultTypes.toList ((Value.bool true).resultList f.resultTypes.size) [.lit (.bool true)] [] := by
    intro b sp hd
    rw [hres]
    exact trodAll_mk1 (shut_bool hbool true)
  have hok : ∀ (j : Nat) (t : TypeId) (r : Value), f.resultTypes[j]? = some t → ((Value.bool true).resultList f.resultTypes.size)[j]? = some r → Value.okWide P W' .any 0 t r := ok_one hres rfl (okWide_bool_mk hbool true)
  have hargs' : ∀ sp : Nat → Bool, (∀ p ∈ before, sp p.block = true) → DataW.TrodAll enc P W' 0 sp true f.params.toList args.toList (s.fn H (ds ++ [])).args before := by rw [hfn']; exact hargs
  have hresl' : ∀ (b : Nat) (sp : Nat → Bool) (hd : Bool), DataW.TrodAll enc P W' b sp hd f.resultTypes.toList ((Value.bool true).resultList f.resultTypes.size) (s.fn H (ds ++ [])).results [] := by rw [hfn']; exact hresl
  have hvars' : ∀ sp : Nat → Bool, DataW.TrodVars enc P W' sp s.vars (s.fn H (ds ++ [])).vars [] := by rw [hfn', hvs]; exact fun _ => rfl
  refine ⟨ds, [], before, [], before, [], hW0, hresl' _ _ _, hargs' _ (fun p hp => by simpa using hlt p hp), hvars' _, World.keptBut_mono (fun p hp => ⟨hp, by simpa using hp⟩) (hb.frame (· ∈ before)), fun _ => ?_⟩
  · refine ⟨hok, _, _, ([] ++ before) ++ [], ⟨[] ++ before, [], trodAll_append (hargs' _ (fun _ _ => rfl)) (hresl' _ _ _), hvars' _, rfl, ?_, ?_⟩, ?_⟩
    · intro b off hp
      have hin : MemPlace.cell b off ∈ before := by simpa using hp
      rw [hb.frozen (hlt _ hin)]
      exact hz b off hin
    · intro ha
      have := hn ha
      simpa using this
    · intro p hp _
      simpa using hp

/- this program -/
theorem own : ownKnob Try.prog.godebug = none := by kernel_rfl
theorem laidOut : laidOutB Try.prog = true := by kernel_rfl
end

section
set_option linter.all false
open Go.ChangeShapes Go.WideShapes Go.ChangeAt Go.RowKit Go.Deep

section
variable {H : Type} {P : Program} {enc : TypeId × Value → H} {w : World} {spare : Nat → Bool} {n : Nat}
theorem open_rows4 {α : Type} [Inhabited α] {f : α → List Value} {m : Nat} {t e : TypeId} {ok : α → Prop} {fuel : Nat} {cs : List Value} {x : DataW H × List MemPlace} (ht : P.underlying t = some (.slice e)) (hC : P.cellsOf e = m)
    (hel : ∀ (n : Nat) (cs' : List Value) (z : DataW H × List MemPlace), cs'.length = m → DataW.trod enc P w 0 spare true n e cs' = some z → (∀ p ∈ z.2, p.block < w.heap.size) → ∃ y : α, cs' = f y ∧ ok y) (hm : 0 < m) (h : DataW.trod enc P w 0 spare true fuel t cs = some x) (hlt : ∀ p ∈ x.2, p.block < w.heap.size) :
    ∃ a c, ∃ l : List α, cs = [.slice a l.length c] ∧ Rd f m w a l ∧ l.length ≤ maxLen ∧ l.length ≤ c ∧ ∀ y ∈ l, ok y := by
  rcases open_slice ht h with ⟨rfl, _⟩ | ⟨a, len, cap, m', n, D, Pl, rfl, _, hl, hcap, hm', rfl, hi⟩
  · exact ⟨none, 0, [], rfl, .inl rfl, Nat.zero_le _, Nat.le_refl _, fun y hy => by cases hy⟩
  · rw [hC] at hi
    have hle : len ≤ m' := by rw [hm']; split <;> omega
    have hex : ∀ i, i < len → ∃ y : α, (∀ j v, (f y)[j]? = some v → w.cell? (a.add (i * m + j)) = some v) ∧ (f y).length = m ∧ ok y := by
      intro i hilt; obtain ⟨cs', hc, htr⟩ := hi i (by omega); obtain ⟨_, hlen, hcell⟩ := World.cells?_some hc; obtain ⟨y, rfl, hok⟩ := hel n cs' _ hlen htr (fun p hp => hlt p (List.mem_append_right _ (List.mem_flatMap.2 ⟨i, List.mem_range.2 (by omega), hp⟩))); refine ⟨y, fun j v hv => ?_, hlen, hok⟩
      have hj : j < m := by
        rcases Nat.lt_or_ge j m with h | h
        · exact h
        · rw [List.getElem?_eq_none (by omega)] at hv; cases hv
      rw [← Go.Deep.add_add, hcell j hj, hv]
    obtain ⟨g, hg⟩ := choose_lt hex; refine ⟨some a, cap, (List.range len).map g, by simp, ?_, by simp; omega, by simp; omega, fun y hy => ?_⟩
    · by_cases h0 : len = 0
      · subst h0; exact .inl rfl
      · have h00 := hg 0 (by omega)
        obtain ⟨b, off, spot⟩ := a; have hz : ∃ v, (f (g 0))[0]? = some v := ⟨_, List.getElem?_eq_getElem (by rw [h00.2.1]; exact hm)⟩; obtain ⟨v0, hv0⟩ := hz; have hc0 := h00.1 0 v0 hv0
        have hspot : spot = none := by simpa [Addr.add] using World.cell?_spot hc0
        subst hspot; refine .inr ⟨b, off, rfl, ?_, fun i y hy j v hv => ?_⟩
        · have : MemPlace.cell b off ∈ MemPlace.row ⟨b, off, none⟩ (m' * P.cellsOf e) ++ (List.range m').flatMap Pl := by
            refine List.mem_append_left _ ?_; have hpos : 0 < m' * P.cellsOf e := Nat.mul_pos (by omega) (by omega)
            simp only [MemPlace.row, List.mem_map, List.mem_range]
            exact ⟨0, hpos, by simp⟩
          exact hlt _ this
        · have hil : i < len := by
            rcases Nat.lt_or_ge i len with h | h
            · exact h
            · rw [List.getElem?_eq_none (by simpa using h)] at hy; cases hy
          rw [List.getElem?_eq_getElem (by simpa using hil)] at hy
          obtain rfl : g i = y := by simpa using hy
          have := (hg i hil).1 j v hv; rw [Go.WideShapes.add_plain] at this; rw [Nat.add_assoc]; exact this
    · obtain ⟨i, hi', rfl⟩ := List.mem_map.1 hy
      exact (hg i (by simpa using hi')).2.2

end
section
variable {H : Type} {enc : TypeId × Value → H} {w : World} {spare : Nat → Bool} {n : Nat}
theorem fld_int {i : Nat} {xs : List (DataW H × List MemPlace)} {l : List Value} (hf : DataW.trod enc Try.prog w 0 spare true n 3 l = xs[i]?) (hi : i < xs.length) : ∃ k, l = [.int .i64 k] ∧ (-9223372036854775808 ≤ k ∧ k ≤ 9223372036854775807) := by
  rw [List.getElem?_eq_getElem hi] at hf; obtain ⟨k, hk, _, hw⟩ := DataW.trod_int Try.underlying3 hf; exact ⟨k, hk, bounds_i64 hw⟩
theorem okWide_array {P : Program} {w : World} {r : Reach} {base n : Nat} {t e : TypeId} {v : Value} (ht : P.underlying t = some (.array n e)) (h : Value.okWide P w r base t v) : ∃ cs, v = .agg cs ∧ cs.size = P.cellsOf t := by
  simp only [Value.okWide, ht] at h
  obtain ⟨cs, h1, h2, _⟩ := h; exact ⟨cs, h1, h2⟩
theorem fld_u8 {i : Nat} {xs : List (DataW H × List MemPlace)} {l : List Value} (hf : DataW.trod enc Try.prog w 0 spare true n 5 l = xs[i]?) (hi : i < xs.length) : ∃ k, l = [.int .u8 k] ∧ (0 ≤ k ∧ k ≤ 255) := by
  rw [List.getElem?_eq_getElem hi] at hf; obtain ⟨k, hk, _, hw⟩ := DataW.trod_int Try.underlying5 hf; exact ⟨k, hk, bounds_u8 hw⟩
set_option maxRecDepth 100000 in
theorem open_u8_3 {base : Nat} {v : Value} {d : DataW H} {p : List MemPlace} (hv : Value.okWide Try.prog w .any base 45 v) (h : DataW.Trod enc Try.prog w 0 spare true 45 v d p) :
    ∃ x0 x1 x2 : Int, v = .agg #[.int .u8 x0, .int .u8 x1, .int .u8 x2] ∧ (0 ≤ x0 ∧ x0 ≤ 255) ∧ (0 ≤ x1 ∧ x1 ≤ 255) ∧ (0 ≤ x2 ∧ x2 ≤ 255) := by
  obtain ⟨cs0, rfl, hsz⟩ := okWide_array Try.underlying45 hv; obtain ⟨fuel, hf0⟩ := h; have e : Value.cells (.agg cs0) = cs0 := rfl; rw [e] at hf0; obtain ⟨xs, m, _, _, hlen, hx, hf⟩ := DataW.trod_array Try.underlying45 hf0; have hl : cs0.toList.length = 3 := hlen.trans (by kernel_rfl)
  have ec : Try.prog.cellsOf 5 = 1 := by kernel_rfl
  obtain ⟨cs0⟩ := cs0
  match cs0, hl with
  | [c0, c1, c2], _ =>
    obtain ⟨x0, h0, b0⟩ := fld_u8 (hf 0 (by decide)) (by omega); obtain ⟨x1, h1, b1⟩ := fld_u8 (hf 1 (by decide)) (by omega); obtain ⟨x2, h2, b2⟩ := fld_u8 (hf 2 (by decide)) (by omega)
    simp [ec] at h0 h1 h2
    subst h0 h1 h2; exact ⟨x0, x1, x2, rfl, b0, b1, b2⟩
set_option maxRecDepth 100000 in
theorem open_ord1 {cs : List Value} {x : DataW H × List MemPlace} (h : DataW.trod enc Try.prog w 0 spare true n 58 cs = some x) : ∃ s : LOrd, cs = LOrd.cs s := by
  obtain ⟨xs, n', _, _, hlen, hx, hf⟩ := DataW.trod_struct Try.underlying58 h; have hl : cs.length = 4 := hlen.trans (by kernel_rfl); have hxl : xs.length = 4 := hx.trans (by rfl)
  match cs, hl with
  | [c0, c1, c2, c3], _ =>
    obtain ⟨x0, h0, b0⟩ := fld_int (hf 0 _ rfl) (by omega); obtain ⟨x1, h1, b1⟩ := fld_int (hf 1 _ rfl) (by omega); obtain ⟨x2, h2, b2⟩ := fld_int (hf 2 _ rfl) (by omega); obtain ⟨x3, h3, b3⟩ := fld_int (hf 3 _ rfl) (by omega); refine ⟨⟨x0, x1, x2, x3⟩, ?_⟩
    have ec : Try.prog.cellsOf 3 = 1 := by kernel_rfl
    simp [ec] at h0 h1 h2 h3
    subst h0 h1 h2 h3; rfl
set_option maxRecDepth 100000 in
theorem open_int0 {fuel : Nat} {cs : List Value} {x : DataW H × List MemPlace} (h : DataW.trod enc Try.prog w 0 spare true fuel 30 cs = some x) (hlt : ∀ p ∈ x.2, p.block < w.heap.size) :
    ∃ a c, ∃ l : List Int, cs = [.slice a l.length c] ∧ Rd icell 1 w a l ∧ l.length ≤ 9223372036854775807 ∧ l.length ≤ c := by
  obtain ⟨a, c, l, hj, rj, nj, cj, _⟩ := open_rows4 (f := icell) (m := 1) (ok := fun _ : Int => True) Try.underlying30 (by kernel_rfl) (fun n cs' z _ hz _ => by obtain ⟨k, hk, _⟩ := DataW.trod_int Try.underlying3 hz; exact ⟨k, hk, trivial⟩) (by decide) h hlt; exact ⟨a, c, l, hj, rj, nj, cj⟩
/-- a path that an argument holds -/
def PthOk (w : World) (y : PthR) : Prop := Rd icell 1 w y.a y.os ∧ y.os.length ≤ 9223372036854775807 ∧ y.os.length ≤ y.c
set_option maxRecDepth 100000 in
theorem open_pth1 {cs : List Value} {x : DataW H × List MemPlace} (h : DataW.trod enc Try.prog w 0 spare true n 49 cs = some x) (hlt : ∀ q ∈ x.2, q.block < w.heap.size) : ∃ y : PthR, cs = y.cs ∧ PthOk w y := by
  obtain ⟨xs, n', _, hxe, hlen, hx, hf⟩ := DataW.trod_struct Try.underlying49 h; have hl : cs.length = 2 := hlen.trans (by kernel_rfl); have hxl : xs.length = 2 := hx.trans (by rfl)
  have ec : Try.prog.cellsOf 3 = 1 := by kernel_rfl
  have et : Try.prog.cellsOf 30 = 1 := by kernel_rfl
  match cs, hl, xs, hxl with
  | [c0, c1], _, [x0, x1], _ =>
    have h0 := hf 0 _ rfl
    obtain ⟨i1, g1, _⟩ := fld_int (hf 1 _ rfl) (by simp)
    simp [ec, et] at h0 g1
    obtain ⟨a0, d0, l0, j0, r0, n0, m0⟩ := open_int0 h0 (fun q hq => hlt q (by rw [hxe]; simp [hq]))
    simp at j0
    subst j0 g1; exact ⟨⟨l0, i1, a0, d0⟩, rfl, r0, n0, m0⟩
set_option maxRecDepth 100000 in
theorem open_task {base : Nat} {v : Value} {d : DataW H} {p : List MemPlace} (hv : Value.okWide Try.prog w .any base 28 v) (h : DataW.Trod enc Try.prog w 0 spare true 28 v d p) (hlt : ∀ x ∈ p, x.block < w.heap.size) :
    ∃ t : TD, v = .agg #[.slice t.ao t.os.length t.co, .int .i64 t.data, .int .i64 t.lines, .slice t.ap t.ps.length t.cp] ∧ t.At w ∧ t.Len ∧ t.os.length ≤ t.co ∧ t.ps.length ≤ t.cp := by
  obtain ⟨cs0, rfl, hsz⟩ := okWide_struct Try.underlying28 hv; obtain ⟨fuel, hf0⟩ := h; have e : Value.cells (.agg cs0) = cs0 := rfl; rw [e] at hf0; obtain ⟨xs, n', _, hxe, hlen, hx, hf⟩ := DataW.trod_struct Try.underlying28 hf0; have hl : cs0.toList.length = 4 := hlen.trans (by kernel_rfl); have hxl : xs.length = 4 := hx.trans (by rfl)
  have ec : Try.prog.cellsOf 3 = 1 := by kernel_rfl
  have eo : Try.prog.cellsOf 25 = 1 := by kernel_rfl
  have ep : Try.prog.cellsOf 26 = 1 := by kernel_rfl
  obtain ⟨cs0⟩ := cs0
  match cs0, hl, xs, hxl with
  | [c0, c1, c2, c3], _, [x0, x1, x2, x3], _ =>
    have h0 := hf 0 _ rfl; have h3 := hf 3 _ rfl; have hp := congrArg Prod.snd hxe
    simp only at hp
    obtain ⟨i1, g1, _⟩ := fld_int (hf 1 _ rfl) (by simp); obtain ⟨i2, g2, _⟩ := fld_int (hf 2 _ rfl) (by simp)
    simp [ec, eo, ep] at h0 h3 g1 g2
    obtain ⟨a0, d0, l0, j0, r0, n0, m0, _⟩ := open_rows4 (f := LOrd.cs) (m := 4) (ok := fun _ : LOrd => True) Try.underlying25 (by kernel_rfl) (fun n cs' z _ hz _ => (open_ord1 hz).imp fun _ e => ⟨e, trivial⟩) (by decide) h0 (fun q hq => hlt q (by rw [hp]; simp [hq]))
    obtain ⟨a3, d3, l3, j3, r3, n3, m3, k3⟩ := open_rows4 (f := PthR.cs) (m := 2) (ok := PthOk w) Try.underlying26 (by kernel_rfl) (fun n cs' z _ hz hlt' => open_pth1 hz hlt') (by decide) h3 (fun q hq => hlt q (by rw [hp]; simp [hq]))
    simp at j0 j3
    subst j0 j3 g1 g2
    unfold maxLen at n0 n3
    exact ⟨⟨l0, i1, i2, l3, a0, d0, a3, d3⟩, rfl, ⟨r0, r3, fun y hy => (k3 y hy).1⟩, ⟨by show l0.length ≤ _; omega, by show l3.length ≤ _; omega, fun y hy => (k3 y hy).2⟩, m0, m3⟩
set_option maxRecDepth 100000 in
theorem open_ints {base : Nat} {v : Value} {d : DataW H} {p : List MemPlace} (hv : Value.okWide Try.prog w .any base 30 v) (h : DataW.Trod enc Try.prog w 0 spare true 30 v d p) (hlt : ∀ x ∈ p, x.block < w.heap.size) :
    ∃ (l : List Int) (a : Option Addr) (c : Nat), v = .slice a l.length c ∧ Rd icell 1 w a l ∧ l.length ≤ 9223372036854775807 ∧ l.length ≤ c := by
  obtain ⟨a0, len, cap, rfl⟩ := okWide_slice Try.underlying30 hv; obtain ⟨fuel, hf0⟩ := h; obtain ⟨a, c, l, hj, rj, nj, cj⟩ := open_int0 hf0 (fun q hq => hlt q hq)
  simp [Value.cells] at hj
  obtain ⟨rfl, rfl, rfl⟩ := hj; exact ⟨l, a0, cap, rfl, rj, nj, cj⟩
end
end

section
set_option linter.all false
open Go.ChangeShapes Go.WideShapes Go.ChangeAt Go.RowKit Go.Deep

section
variable {H : Type} {enc : TypeId × Value → H} {w : World} {spare : Nat → Bool} {n : Nat}
set_option maxRecDepth 100000 in
theorem open_u8_2 {base : Nat} {v : Value} {d : DataW H} {p : List MemPlace} (hv : Value.okWide Try.prog w .any base 47 v) (h : DataW.Trod enc Try.prog w 0 spare true 47 v d p) :
    ∃ x0 x1 : Int, v = .agg #[.int .u8 x0, .int .u8 x1] ∧ (0 ≤ x0 ∧ x0 ≤ 255) ∧ (0 ≤ x1 ∧ x1 ≤ 255) := by
  obtain ⟨cs0, rfl, hsz⟩ := okWide_array Try.underlying47 hv; obtain ⟨fuel, hf0⟩ := h; have e : Value.cells (.agg cs0) = cs0 := rfl; rw [e] at hf0; obtain ⟨xs, m, _, _, hlen, hx, hf⟩ := DataW.trod_array Try.underlying47 hf0; have hl : cs0.toList.length = 2 := hlen.trans (by kernel_rfl)
  have ec : Try.prog.cellsOf 5 = 1 := by kernel_rfl
  obtain ⟨cs0⟩ := cs0
  match cs0, hl with
  | [c0, c1], _ =>
    obtain ⟨x0, h0, b0⟩ := fld_u8 (hf 0 (by decide)) (by omega); obtain ⟨x1, h1, b1⟩ := fld_u8 (hf 1 (by decide)) (by omega)
    simp [ec] at h0 h1
    subst h0 h1; exact ⟨x0, x1, rfl, b0, b1⟩
set_option maxRecDepth 100000 in
theorem open_u8s0 {fuel : Nat} {cs : List Value} {x : DataW H × List MemPlace} (h : DataW.trod enc Try.prog w 0 spare true fuel 42 cs = some x) (hlt : ∀ p ∈ x.2, p.block < w.heap.size) :
    ∃ a c, ∃ l : List Int, cs = [.slice a l.length c] ∧ Rd ucell 1 w a l ∧ l.length ≤ 9223372036854775807 ∧ l.length ≤ c ∧ ∀ y ∈ l, 0 ≤ y ∧ y ≤ 255 := by
  obtain ⟨a, c, l, hj, rj, nj, cj, kj⟩ := open_rows4 (f := ucell) (m := 1) (ok := fun y : Int => 0 ≤ y ∧ y ≤ 255) Try.underlying42 (by kernel_rfl) (fun n cs' z _ hz _ => by obtain ⟨k, hk, _, hw⟩ := DataW.trod_int Try.underlying5 hz; exact ⟨k, hk, bounds_u8 hw⟩) (by decide) h hlt
  exact ⟨a, c, l, hj, rj, nj, cj, kj⟩
set_option maxRecDepth 100000 in
theorem open_u8s {base : Nat} {v : Value} {d : DataW H} {p : List MemPlace} (hv : Value.okWide Try.prog w .any base 42 v) (h : DataW.Trod enc Try.prog w 0 spare true 42 v d p) (hlt : ∀ x ∈ p, x.block < w.heap.size) :
    ∃ (l : List Int) (a : Option Addr) (c : Nat), v = .slice a l.length c ∧ Rd ucell 1 w a l ∧ l.length ≤ 9223372036854775807 ∧ l.length ≤ c ∧ ∀ y ∈ l, 0 ≤ y ∧ y ≤ 255 := by
  obtain ⟨a0, len, cap, rfl⟩ := okWide_slice Try.underlying42 hv; obtain ⟨fuel, hf0⟩ := h; obtain ⟨a, c, l, hj, rj, nj, cj, kj⟩ := open_u8s0 hf0 (fun q hq => hlt q hq)
  simp [Value.cells] at hj
  obtain ⟨rfl, rfl, rfl⟩ := hj; exact ⟨l, a0, cap, rfl, rj, nj, cj, kj⟩
end
end

section
set_option linter.all false
open Go.RowKit

theorem perm_out {l o : List Int} {k : Nat} (hk : k < l.length) : (cutL l k ++ (o ++ [lx l k])).Perm (l ++ o) := by
  unfold cutL
  have e : l = l.take k ++ lx l k :: l.drop (k + 1) := by
    rw [lx_eq hk, ← List.drop_eq_getElem_cons hk, List.take_append_drop]
  have h1 : (l ++ o).Perm ((lx l k :: (l.take k ++ l.drop (k + 1))) ++ o) := by
    have := (List.perm_middle (a := lx l k) (l₁ := l.take k) (l₂ := l.drop (k + 1))).append_right o
    rwa [← e] at this
  refine List.Perm.trans ?_ h1.symm
  rw [← List.append_assoc]
  exact List.perm_append_comm
theorem any_ok {m : Nat} {x : List Int} : ∀ i, i ≤ m → (lefT m x i ++ outT m x i).Perm (natsI m)
  | 0, _ => by show (natsI m ++ []).Perm (natsI m); simp
  | i + 1, h => by
    have h1 := any_ok (m := m) (x := x) i (by omega)
    have h2 := anyT_len (m := m) (x := x) i (by omega)
    have hk := anyK_lt (x := x) (i := i) (m := (lefT m x i).length) (by omega)
    rw [← lefT_succ rfl, ← outT_succ rfl]
    exact (perm_out hk).trans h1
theorem any_lay {t : TD} (ht : t.Ok) (x : List Int) : layL t (anyL t x) = 0 := by
  have hl1 := ht.l1
  have hd := ht.d1
  have hf := ht.it
  have hn := ht.n1
  have h1 := any_ok (m := (t.lines * 16).toNat) (x := x) (t.os.length + t.data.toNat) (by omega)
  have h2 := anyT_len (m := (t.lines * 16).toNat) (x := x) (t.os.length + t.data.toNat) (by omega)
  have hnd := (h1.nodup_iff).2 (natsI_nodup _)
  rw [List.nodup_append] at hnd
  refine layE_mk h2.2 (fun a ha => ?_) fun i j hij hj => ?_
  · have := h1.mem_iff.1 (List.mem_append.2 (.inr ha))
    have := natsI_mem.1 this
    omega
  · have hj' : j < (outT (t.lines * 16).toNat x (t.os.length + t.data.toNat)).length := hj
    unfold anyL
    rw [lx_eq (by omega), lx_eq hj']
    intro e
    have := (List.getElem_inj hnd.2.1).1 e
    omega
end

section
set_option linter.all false
open Go.RowKit

theorem LayG.lay {t : TD} {lay : List Int} (h : LayG (t.os.length + t.data.toNat) t.lines lay) : layL t lay = 0 :=
  layE_mk h.len h.rg fun i j hij hj => h.ds i j hij (by rw [← h.len]; exact hj)
theorem best_res {t : TD} (he : bestEr t = 0) : layL t (bestL t) = 0 ∧ lx (bestL t) 0 = 0 ∧ (bestL t).length = t.os.length + t.data.toNat ∧ 0 < (bestL t).length ∧ ∀ lay, layL t lay = 0 → costL t (bestL t) ≤ costL t lay := by
  obtain ⟨ht, _⟩ := bestEr_ok he
  have hn := ht.n1
  have hp : 0 < t.os.length + t.data.toNat := by omega
  obtain ⟨l, h1, _⟩ := best_min ht hp (laid_good ht).lay
  have hL : bestL t = l := by rw [bestL, h1]; rfl
  obtain ⟨g1, g2, g3⟩ := best_lay ht hp h1
  rw [hL]
  refine ⟨g1, g2, g3, by omega, fun lay hl => ?_⟩
  obtain ⟨l', h3, h4⟩ := best_min ht hp hl
  rw [h1] at h3
  cases h3
  exact h4
theorem cost_ok {t : TD} (ht : t.Ok) {lay : List Int} (hl : layL t lay = 0) : costR t lay = (costL t lay, 0) := by
  unfold costR
  rw [chkL_mk ht, if_neg (by simp), if_neg (by rw [hl]; simp)]
theorem goodF_lay {t : TD} {n : Nat} : ∀ k lay, LayG n t.lines lay → LayG n t.lines (goodF t k lay)
  | 0, lay, h => h
  | k + 1, lay, h => by
    rw [goodF]
    split
    · exact h
    · rename_i hne
      have hs := good_step h hne
      exact goodF_lay k _ (h.exch (by have := hs.2.1; have := hs.2.2.1; omega) hs.2.2.1)
theorem goodF_min {t : TD} (ht : t.Ok) {n : Nat} : ∀ (k : Nat) (lay : List Int), LayG n t.lines lay → costL t lay < (k : Int) → leastK (exC t (goodF t k lay) (rowsTo (goodF t k lay).length (goodF t k lay).length)) (exC t (goodF t k lay) (rowsTo (goodF t k lay).length (goodF t k lay).length)).length = 0
  | 0, lay, h, hk => by have := (costL_nn ht lay).1; omega
  | k + 1, lay, h, hk => by
    rw [goodF]
    split
    · rename_i h0; exact h0
    · rename_i hne
      have hs := good_step h hne
      exact goodF_min ht k _ (h.exch (by have := hs.2.1; have := hs.2.2.1; omega) hs.2.2.1) (by have := hs.2.2.2.2; push_cast at hk; omega)
theorem exch_self {lay : List Int} {i : Nat} (hi : i < lay.length) : exch lay i i = lay := by
  refine lx_ext (exch_len _ _ _) fun j _ => ?_
  rw [exch_lx hi hi]; split
  · rename_i e; rw [e]
  · rfl
theorem exch_comm {lay : List Int} {i k : Nat} (hi : i < lay.length) (hk : k < lay.length) : exch lay i k = exch lay k i := by
  refine lx_ext (by rw [exch_len, exch_len]) fun j _ => ?_
  rw [exch_lx hi hk, exch_lx hk hi]
  split
  · rename_i e; subst e; split
    · rename_i e2; subst e2; rfl
    · rfl
  · rfl
theorem good_res {t : TD} (ht : t.Ok) : layL t (goodL t) = 0 ∧ (goodL t).length = t.os.length + t.data.toNat ∧ ∀ i k, i < (goodL t).length → k < (goodL t).length → layL t (exch (goodL t) i k) = 0 ∧ costL t (goodL t) ≤ costL t (exch (goodL t) i k) := by
  have h0 := laid_good ht
  have hG : LayG (t.os.length + t.data.toNat) t.lines (goodL t) := goodF_lay _ _ h0
  refine ⟨hG.lay, hG.len, fun i k hi hk => ⟨(hG.exch (by have := hG.len; omega) (by have := hG.len; omega)).lay, ?_⟩⟩
  have hm : leastK (exC t (goodL t) (rowsTo (goodL t).length (goodL t).length)) (exC t (goodL t) (rowsTo (goodL t).length (goodL t).length)).length = 0 :=
    goodF_min ht ((costL t (laidL t)).toNat + 1) (laidL t) h0 (by have := (costL_nn ht (laidL t)).1; omega)
  have hlt : ∀ a b, a < b → b < (goodL t).length → costL t (goodL t) ≤ costL t (exch (goodL t) a b) := fun a b hab hb => by
    have h2 : (a, b) ∈ rowsTo (goodL t).length (goodL t).length := rowsTo_mem.2 ⟨by dsimp only; omega, hab, hb⟩
    obtain ⟨j, hj, e⟩ := List.mem_iff_getElem.1 h2
    have h3 := (leastK_min (exC t (goodL t) (rowsTo (goodL t).length (goodL t).length)) (exC t (goodL t) (rowsTo (goodL t).length (goodL t).length)).length).1 (j + 1) (by rw [exC_len]; omega)
    rw [hm, exC_at hj, lx_eq hj, e] at h3
    exact h3
  rcases Nat.lt_trichotomy i k with h | h | h
  · exact hlt i k h hk
  · subst h; rw [exch_self hi]; exact Int.le_refl _
  · rw [exch_comm hi hk]; exact hlt k i h hi
/- a line more -/
def TD.moreL (t : TD) : TD := ⟨t.os, t.data, t.lines + 1, t.ps, t.ao, t.co, t.ap, t.cp⟩
theorem TD.moreL_ok {t : TD} (h : t.Ok) (h8 : ¬ t.lines = 8) : t.moreL.Ok := by
  obtain ⟨h1, h2, h3, h4, h5, h6, h7⟩ := h
  exact ⟨h1, h2, by show 1 ≤ t.lines + 1 ∧ t.lines + 1 ≤ 8; omega, h4, by show (t.os.length : Int) + t.data ≤ (t.lines + 1) * 16; omega, h6, h7⟩
theorem lines_res {t : TD} (he : bestEr t = 0) (h8 : ¬ t.lines = 8) : bestEr t.moreL = 0 ∧ costR t (bestL t) = (costL t (bestL t), 0) ∧ costR t.moreL (bestL t.moreL) = (costL t.moreL (bestL t.moreL), 0) ∧ costL t.moreL (bestL t.moreL) ≤ costL t (bestL t) := by
  obtain ⟨ht, hf, _⟩ := bestEr_ok he
  have hm := TD.moreL_ok ht h8
  have he2 : bestEr t.moreL = 0 := by
    unfold bestEr
    rw [chkL_mk hm, if_neg (by simp), if_neg (by show ¬ 4 < (t.os.length : Int) + t.data; omega)]
  obtain ⟨a1, a2, a3, a4, a5⟩ := best_res he
  obtain ⟨b1, b2, b3, b4, b5⟩ := best_res he2
  refine ⟨he2, cost_ok ht a1, cost_ok hm b1, ?_⟩
  have hl : layL t.moreL (bestL t) = 0 := by
    obtain ⟨g1, g2, g3⟩ := layE_ok a1
    exact layE_mk g1 (fun a ha => by have := g2 a ha; show 0 ≤ a ∧ a < (t.lines + 1) * 16; omega) fun i j hij hj => take_ne g3 hij hj
  exact b5 _ hl
end


end Go.Proofs.Ytigehmghcafblaa
