/- Rows of layout: lists of pairs opened (Great seat). -/
import Derived.Test.YtigehmghcafblaaGreatlzW36
import Derived.Test.YtigehmghcafblaaGreatlzW21
import Derived.Test.YtigehmghcafblaaGreatlzG6
import Derived.Deep.Slices
import Derived.Deep.Fields
import Derived.ProofKit
import Derived.OpenShut
import Derived.Carry
import Derived.ChangeSame
import Derived.ReadAgain
import Derived.Test.YtigehmghcafblaaGreatlzY2
set_option linter.all false
namespace Go.Proofs.YtigehmghcafblaaGreat

section
set_option linter.all false
set_option pp.maxSteps 100000
set_option maxRecDepth 100000
set_option maxHeartbeats 4000000
open Go.RowKit

theorem Ints_v (l m : List Int) (a a2 : Option Addr) (c c2 : Nat) (w : World) (hl : Rd icell 1 w a l) (hm : Rd icell 1 w a2 m) (hn : l.length ≤ 9223372036854775807) (hn2 : m.length ≤ 9223372036854775807) :
    Calls Tryz.prog 23 #[.slice a l.length c, .slice a2 m.length c2] w (fun e w' => e = .returned (.bool (decide (l = m))) ∧ Below w.heap.size w w') := by
  refine go_in Tryz.func23 rfl Tryz.ntmps23 [] [] (Mem.start _) ?_
  refine go ?_
  refine go_if (fun h => ?_) (fun h => ?_)
  · refine go ?_
    refine ev1 ?_
    have : ¬ l = m := fun e => h (by rw [e])
    simp [this]
  have hlm : l.length = m.length := by have h9 : (l.length : Int) = m.length := (by simpa using h); omega
  have HLM := hid hlm
  have hle : l.length ≤ m.length := by omega
  clear h hlm
  refine go ?_
  refine go_loop (X := Nat) (fun i => i ≤ l.length ∧ ∀ j, j < i → lx l j = lx m j) (fun i => l.length - i) (fun i => [(5, .int .i64 i)]) (fun _ => []) 0 [0, 1] ⟨Nat.zero_le _, fun j hj => by omega⟩ (by simp [AgreeL, At]) sb (fun i hi => ?_)
  obtain ⟨hi1, hi2⟩ := hi
  refine go ?_
  refine go_if (fun h => ?_) (fun h => ?_)
  · have hil : i < l.length := by omega
    have him : i < m.length := by omega
    refine go ?_
    refine go_if (fun h2 => ?_) (fun h2 => ?_)
    · refine go ?_
      refine ev1 ?_
      have : ¬ l = m := fun e => h2 (by rw [e])
      simp [this]
    · have h3 : lx l i = lx m i := by simpa using h2
      have h4 := hid h3
      clear h2 h3
      refine go ?_
      exact go_again (i + 1) ⟨hil, fun j hj => by
        rcases Nat.lt_or_ge j i with h5 | h5
        · exact hi2 j h5
        · obtain rfl : j = i := by omega
          exact h4.out⟩ (by omega) (by simp [AgreeL, At]) sb
  · refine go ?_
    refine ev1 ?_
    have : l = m := lx_ext HLM.out fun j hj => hi2 j (by omega)
    simp [this]
theorem lxP_ext {l m : List LaP} (hl : l.length = m.length) (h : ∀ i, i < l.length → lx l i = lx m i) : l = m := by
  apply List.ext_getElem hl
  intro i h1 h2
  have := h i h1
  rwa [lx_eq h1, lx_eq h2] at this
theorem Ex.neP {w0 : World} {Bs : List Nat} {n : Nat} {L : List (Nat × Value)} {H : List En} {d : Nat} {ty : TypeId} {pos : String} {af : Array Edge} {gd : Option (Nat × Bool)} {x y : Operand} (p q : LaP)
    (hx : ∀ g, evF n (tab L g) x = .agg #[.int .i64 p.path, .int .i64 p.fr, .int .i64 p.tt] := by intro g; simp only [evF_tmp, tab_cons, Nat.reduceLT, Nat.reduceEqDiff, ↓reduceIte]; (try rfl)) (hy : ∀ g, evF n (tab L g) y = .agg #[.int .i64 q.path, .int .i64 q.fr, .int .i64 q.tt] := by intro g; simp only [evF_tmp, tab_cons, Nat.reduceLT, Nat.reduceEqDiff, ↓reduceIte]; (try rfl)) :
    Ex w0 Bs Tryz.prog n ⟨some d, .binOp .neq 83 x y 83, ty, pos, af, gd⟩ L H (.bool (decide (¬ p = q))) := fun g w _ => by
  have key : ∀ R : Result Next → Prop, R (.ok (.value (.bool (decide (¬ p = q)))) w) → R ((execOp (evF n (tab L g)) ⟨some d, .binOp .neq 83 x y 83, ty, pos, af, gd⟩).run Tryz.prog w) := by
    intro R hR
    have e : decide (¬ p = q) = decide (¬ (p.path = q.path ∧ p.fr = q.fr ∧ p.tt = q.tt)) := by
      rw [decide_eq_decide]; obtain ⟨a, b, c⟩ := p; obtain ⟨a', b', c'⟩ := q; simp
    rw [e] at hR
    have h1 := hx g
    have h2 := hy g
    go_simp
    by_cases q1 : p.path = q.path <;> by_cases q2 : p.fr = q.fr <;> by_cases q3 : p.tt = q.tt <;> simp [q1, q2, q3] at hR ⊢ <;> exact hR
  exact key (fun r => r = _) rfl
theorem Proofs_v (l m : List LaP) (a a2 : Option Addr) (c c2 : Nat) (w : World) (hl : Rd LaP.cs 3 w a l) (hm : Rd LaP.cs 3 w a2 m) (hn : l.length ≤ 9223372036854775807) (hn2 : m.length ≤ 9223372036854775807) :
    Calls Tryz.prog 18 #[.slice a l.length c, .slice a2 m.length c2] w (fun e w' => e = .returned (.bool (decide (l = m))) ∧ Below w.heap.size w w') := by
  refine go_in Tryz.func18 rfl Tryz.ntmps18 [] [] (Mem.start _) ?_
  refine go ?_
  refine go_if (fun h => ?_) (fun h => ?_)
  · refine go ?_
    refine ev1 ?_
    have : ¬ l = m := fun e => h (by rw [e])
    simp [this]
  have hlm : l.length = m.length := by have h9 : (l.length : Int) = m.length := (by simpa using h); omega
  have HLM := hid hlm
  have hle : l.length ≤ m.length := by omega
  clear h hlm
  refine go ?_
  refine go_loop (X := Nat) (fun i => i ≤ l.length ∧ ∀ j, j < i → lx l j = lx m j) (fun i => l.length - i) (fun i => [(5, .int .i64 i)]) (fun _ => []) 0 [0, 1] ⟨Nat.zero_le _, fun j hj => by omega⟩ (by simp [AgreeL, At]) sb (fun i hi => ?_)
  obtain ⟨hi1, hi2⟩ := hi
  refine go ?_
  refine go_if (fun h => ?_) (fun h => ?_)
  · have hil : i < l.length := by omega
    have him : i < m.length := by omega
    refine go ?_
    refine GoL.q ⟨_, Ex.neP (lx l i) (lx m i), ?_⟩
    refine go ?_
    refine go_if (fun h2 => ?_) (fun h2 => ?_)
    · refine go ?_
      refine ev1 ?_
      have : ¬ l = m := fun e => h2 (by rw [e])
      simp [this]
    · have h3 : lx l i = lx m i := by simpa using h2
      have h4 := hid h3
      clear h2 h3
      refine go ?_
      exact go_again (i + 1) ⟨hil, fun j hj => by
        rcases Nat.lt_or_ge j i with h5 | h5
        · exact hi2 j h5
        · obtain rfl : j = i := by omega
          exact h4.out⟩ (by omega) (by simp [AgreeL, At]) sb
  · refine go ?_
    refine ev1 ?_
    have : l = m := lxP_ext HLM.out fun j hj => hi2 j (by omega)
    simp [this]
/-- where the examples' task lies -/
abbrev tskV (q : Nat × Nat × Nat) : Value := .agg #[.slice (some ⟨q.1, 0, none⟩) 2 2, .int .i64 2, .int .i64 1, .slice (some ⟨q.2.1, 0, none⟩) 1 1]
abbrev tskE (op : Int) (q : Nat × Nat × Nat) : List En := [.cells q.1 [.int .i64 op, .int .i64 0, .int .i64 1, .int .i64 1, .int .i64 5, .int .i64 1, .int .i64 0, .int .i64 1], .cells q.2.1 [.slice (some ⟨q.2.2, 0, none⟩) 3 3, .int .i64 10], .cells q.2.2 [.int .i64 0, .int .i64 1, .int .i64 0]]
theorem Task_v (w : World) : Calls Tryz.prog 46 #[] w (Ret tskV (tskE 2) w) := by
  refine go_in Tryz.func46 rfl Tryz.ntmps46 [] [] (Mem.start _) ?_
  refine go ?_
  refine GoL.a (fun b0 => ?_)
  refine go ?_
  refine GoL.as (fun b3 => ?_)
  refine go ?_
  refine GoL.as (fun b4 => ?_)
  refine go ?_
  refine GoL.as (fun b6 => ?_)
  refine go ?_
  refine end_c ?_
  exact fun w' hw => ⟨(b3, b6, b4), rfl, hw.done sb⟩
theorem Product_v (w : World) : Calls Tryz.prog 47 #[] w (Ret tskV (tskE 4) w) := by
  refine go_in Tryz.func47 rfl Tryz.ntmps47 [] [] (Mem.start _) ?_
  refine go ?_
  refine GoL.a (fun b0 => ?_)
  refine go ?_
  refine GoL.c (fun w' hw => Task_v w') (fun q => ?_)
  obtain ⟨q1, q2, q3⟩ := q
  dsimp only [tskV, tskE]
  refine go ?_
  refine GoL.a (fun b1 => ?_)
  refine go ?_
  refine end_c ?_
  exact fun w' hw => ⟨(q1, q2, q3), rfl, hw.done sb⟩
theorem tsk_at {op : Int} {q : Nat × Nat × Nat} {w w0 : World} {H : List En} (h : Mem w0 [] H w) (hs : Sub (tskE op q) H) : (tskL op q.1 q.2.1 q.2.2).At w := by
  have h1 : Mem w0 [] (tskE op q) w := h.sub hs
  refine ⟨Cells.rd (f := LOrd.cs) (m := 4) (fun _ => rfl) (h1.cells pk), Cells.rd (f := PthR.cs) (m := 2) (fun _ => rfl) (h1.cells pk), fun x hx => ?_⟩
  simp only [tskL, List.mem_singleton] at hx
  subst hx
  exact Cells.rd (f := icell) (m := 1) (fun _ => rfl) (h1.cells pk)
theorem tsk_len {op : Int} {q : Nat × Nat × Nat} : (tskL op q.1 q.2.1 q.2.2).Len := ⟨by simp [tskL], by simp [tskL], fun x hx => by simp only [tskL, List.mem_singleton] at hx; subst hx; simp⟩
end

section
set_option linter.all false
set_option pp.maxSteps 100000
set_option maxRecDepth 100000
set_option maxHeartbeats 4000000
open Go.RowKit

theorem xCost (q : Nat × Nat × Nat) (lay : List Int) (al : Option Addr) (cl : Nat) (n e : Int) (hv : costR (tskL 2 q.1 q.2.1 q.2.2) lay = (n, e)) (w w0 : World) (H : List En) (h : Mem w0 [] H w) (hs : Sub (tskE 2 q) H) (hl : Rd icell 1 w al lay) (hll : lay.length ≤ 9223372036854775807 ∧ lay.length ≤ cl) :
    Calls Tryz.prog 13 #[tskV q, .slice al lay.length cl] w (fun e' w' => e' = .returned (.tuple #[.int .i64 n, .int .i64 e]) ∧ Below w.heap.size w w') := by
  have := Cost_v (tskL 2 q.1 q.2.1 q.2.2) lay al cl w tsk_len (tsk_at h hs) hl hll
  rw [hv] at this
  exact this
theorem xBound (op : Int) (q : Nat × Nat × Nat) (l : List LaP) (n : Int) (h0 : chkL (tskL op q.1 q.2.1 q.2.2) = (0, 0, 0)) (h1 : boundL (tskL op q.1 q.2.1 q.2.2) = l) (h2 : boundN (tskL op q.1 q.2.1 q.2.2) = n) (w w0 : World) (H : List En) (h : Mem w0 [] H w) (hs : Sub (tskE op q) H) :
    Calls Tryz.prog 16 #[tskV q] w (Ret (fun r : Option Addr × Nat => .tuple #[.slice r.1 l.length r.2, .int .i64 n, .int .i64 0]) (fun r => [.rd LaP.cs 3 r.1 l]) w) := by
  have := Bound_ok (tskL op q.1 q.2.1 q.2.2) 0 0 w tsk_len (tsk_at h hs) h0
  rw [h1, h2] at this
  exact this
theorem xGood (q : Nat × Nat × Nat) (w w0 : World) (H : List En) (h : Mem w0 [] H w) (hs : Sub (tskE 2 q) H) :
    Calls Tryz.prog 21 #[tskV q] w (Ret (fun g : Nat => .tuple #[.slice (some ⟨g, 0, none⟩) 4 4, .int .i64 0]) (fun g => [.cells g (ic [0, 3, 1, 2])]) w) := by
  have := Good_ok (tskL 2 q.1 q.2.1 q.2.2) 0 0 w tsk_len (tsk_at h hs) (ex_chk _ _ _)
  rw [ex_good] at this
  exact this
theorem xBest (op : Int) (q : Nat × Nat × Nat) (h0 : bestEr (tskL op q.1 q.2.1 q.2.2) = 0) (h1 : bestL (tskL op q.1 q.2.1 q.2.2) = [0, 1, 2, 3]) (w w0 : World) (H : List En) (h : Mem w0 [] H w) (hs : Sub (tskE op q) H) :
    Calls Tryz.prog 24 #[tskV q] w (Ret (fun r : Option Addr × Nat => .tuple #[.slice r.1 ([0, 1, 2, 3] : List Int).length r.2, .int .i64 0]) (fun r => [.rd icell 1 r.1 [0, 1, 2, 3]]) w) := by
  have := Best_ok (tskL op q.1 q.2.1 q.2.2) w tsk_len (tsk_at h hs) h0
  rw [h1] at this
  exact this
theorem xAcc (q : Nat × Nat × Nat) (l : List LaP) (al : Option Addr) (cl : Nat) (n e : Int) (hv : accR (tskL 2 q.1 q.2.1 q.2.2) l = (n, e)) (w w0 : World) (H : List En) (h : Mem w0 [] H w) (hs : Sub (tskE 2 q) H) (hl : Rd LaP.cs 3 w al l) (hll : l.length ≤ 9223372036854775807) :
    Calls Tryz.prog 19 #[tskV q, .slice al l.length cl] w (fun e' w' => e' = .returned (.tuple #[.int .i64 n, .int .i64 e]) ∧ Below w.heap.size w w') := by
  have := Accept_v (tskL 2 q.1 q.2.1 q.2.2) l al cl w tsk_len (tsk_at h hs) hl hll
  rw [hv] at this
  exact this
theorem xLay (q : Nat × Nat × Nat) (al aw : Option Addr) (cl cw : Nat) (w w0 : World) (H : List En) (h : Mem w0 [] H w) (hs : Sub (tskE 2 q) H) (hl : Rd icell 1 w al [0, 3, 1, 2]) (hc : 4 ≤ cl) (hw : Rd icell 1 w aw [5, 7]) :
    Calls Tryz.prog 26 #[tskV q, .slice al ([0, 3, 1, 2] : List Int).length cl, .slice aw ([5, 7] : List Int).length cw] w (Ret (fun g : Nat => .tuple #[.slice (some ⟨g, 0, none⟩) 128 128, .int .i64 0]) (fun g => [.cells g (ic (layW (tskL 2 q.1 q.2.1 q.2.2) [0, 3, 1, 2] [5, 7]))]) w) :=
  Lay_ok (tskL 2 q.1 q.2.1 q.2.2) [0, 3, 1, 2] [5, 7] al aw cl cw w tsk_len (tsk_at h hs) hl ⟨by decide, hc⟩ hw (ex_layF _ _ _)
theorem xInts (l : List Int) (a a2 : Option Addr) (c c2 : Nat) (w : World) (hl : Rd icell 1 w a l) (hm : Rd icell 1 w a2 l) (hn : l.length ≤ 9223372036854775807) :
    Calls Tryz.prog 23 #[.slice a l.length c, .slice a2 l.length c2] w (fun e w' => e = .returned (.bool true) ∧ Below w.heap.size w w') := by
  have := Ints_v l l a a2 c c2 w hl hm hn hn
  rwa [decide_eq_true rfl] at this
theorem xProofs (l : List LaP) (a a2 : Option Addr) (c c2 : Nat) (w : World) (hl : Rd LaP.cs 3 w a l) (hm : Rd LaP.cs 3 w a2 l) (hn : l.length ≤ 9223372036854775807) :
    Calls Tryz.prog 18 #[.slice a l.length c, .slice a2 l.length c2] w (fun e w' => e = .returned (.bool true) ∧ Below w.heap.size w w') := by
  have := Proofs_v l l a a2 c c2 w hl hm hn hn
  rwa [decide_eq_true rfl] at this
theorem awake_v (w : World) : Calls Tryz.prog 15 #[] w (fun e w' => e = .returned (.bool true) ∧ Below w.heap.size w w') := by
  refine go_in Tryz.func15 rfl Tryz.ntmps15 [] [] (Mem.start _) ?_
  refine go ?_
  refine GoL.c (fun w' hw => Task_v w') (fun q1 => ?_)
  refine go ?_
  refine GoL.sl (Ef.lit (f := icell) (m := 1) (e := 3) [0, 3, 2, 1] (fun _ => rfl) rfl) (fun a1 c1 => ?_)
  refine go ?_
  refine GoL.cv (fun w' hw => xCost q1 [0, 3, 2, 1] a1 c1 480 0 (ex_cost _ _ _) w' w _ hw sb (hw.ownRd pk) ⟨by decide, (hw.own (l := [0, 3, 2, 1]) pk).cap⟩) ?_
  refine go ?_
  refine GoL.c (fun w' hw => Product_v w') (fun q2 => ?_)
  refine go ?_
  refine GoL.c (fun w' hw => xBound 4 q2 [⟨0, 0, 6⟩, ⟨0, 2, 5⟩, ⟨0, 2, 3⟩, ⟨0, 3, 5⟩] 480 (ex_chk4 _ _ _) (ex_bound4 _ _ _) (ex_boundN4 _ _ _) w' w _ hw sb) (fun r3 => ?_)
  refine GoL.mem (H' := [.rd LaP.cs 3 r3.1 [⟨0, 0, 6⟩, ⟨0, 2, 5⟩, ⟨0, 2, 3⟩, ⟨0, 3, 5⟩]]) (fun w hw => hw.sub sb) ?_
  refine go ?_
  refine GoL.c (fun w' hw => Task_v w') (fun q4 => ?_)
  refine go ?_
  refine GoL.c (fun w' hw => xGood q4 w' w _ hw sb) (fun g5 => ?_)
  refine GoL.mem (H' := [.cells g5 (ic [0, 3, 1, 2]), .rd LaP.cs 3 r3.1 [⟨0, 0, 6⟩, ⟨0, 2, 5⟩, ⟨0, 2, 3⟩, ⟨0, 3, 5⟩]]) (fun w hw => hw.sub sb) ?_
  refine go ?_
  refine GoL.c (fun w' hw => Task_v w') (fun q6 => ?_)
  refine go ?_
  refine GoL.c (fun w' hw => xBest 2 q6 (ex_bestE _ _ _) (ex_best _ _ _) w' w _ hw sb) (fun r7 => ?_)
  refine GoL.mem (H' := [.rd icell 1 r7.1 [0, 1, 2, 3], .cells g5 (ic [0, 3, 1, 2]), .rd LaP.cs 3 r3.1 [⟨0, 0, 6⟩, ⟨0, 2, 5⟩, ⟨0, 2, 3⟩, ⟨0, 3, 5⟩]]) (fun w hw => hw.sub sb) ?_
  refine go ?_
  refine GoL.c (fun w' hw => Task_v w') (fun q8 => ?_)
  refine go ?_
  refine GoL.sl (Ef.lit (f := LaP.cs) (m := 3) (e := 83) [⟨0, 2, 4⟩] (fun _ => rfl) rfl) (fun a9 c9 => ?_)
  refine go ?_
  refine GoL.cv (fun w' hw => xAcc q8 [⟨0, 2, 4⟩] a9 c9 190 0 (ex_acc1 _ _ _) w' w _ hw sb (hw.ownRd pk) (by decide)) ?_
  refine GoL.mem (H' := [.rd icell 1 r7.1 [0, 1, 2, 3], .cells g5 (ic [0, 3, 1, 2]), .rd LaP.cs 3 r3.1 [⟨0, 0, 6⟩, ⟨0, 2, 5⟩, ⟨0, 2, 3⟩, ⟨0, 3, 5⟩]]) (fun w hw => hw.sub sb) ?_
  refine go ?_
  refine GoL.c (fun w' hw => Task_v w') (fun q10 => ?_)
  refine go ?_
  refine GoL.sl (Ef.lit (f := icell) (m := 1) (e := 3) [0, 3, 1, 2] (fun _ => rfl) rfl) (fun a11 c11 => ?_)
  refine go ?_
  refine GoL.sl (Ef.lit (f := icell) (m := 1) (e := 3) [5, 7] (fun _ => rfl) rfl) (fun a12 c12 => ?_)
  refine go ?_
  refine GoL.c (fun w' hw => xLay q10 a11 a12 c11 c12 w' w _ hw sb (hw.ownRd pk) (hw.own (f := icell) (m := 1) (T := 3) (l := ([0, 3, 1, 2] : List Int)) pk).cap (hw.ownRd pk)) (fun g13 => ?_)
  refine GoL.mem (H' := [.cells g13 (ic (layW (tskL 2 q10.1 q10.2.1 q10.2.2) [0, 3, 1, 2] [5, 7])), .rd icell 1 r7.1 [0, 1, 2, 3], .cells g5 (ic [0, 3, 1, 2]), .rd LaP.cs 3 r3.1 [⟨0, 0, 6⟩, ⟨0, 2, 5⟩, ⟨0, 2, 3⟩, ⟨0, 3, 5⟩]]) (fun w hw => hw.sub sb) ?_
  refine go ?_
  refine GoL.c (fun w' hw => Task_v w') (fun q14 => ?_)
  refine go ?_
  refine GoL.cv (fun w' hw => xCost q14 [] none 0 0 3 (ex_cost0 _ _ _) w' w _ hw sb (.inl rfl) ⟨by decide, Nat.le_refl _⟩) ?_
  refine GoL.mem (H' := [.cells g13 (ic (layW (tskL 2 q10.1 q10.2.1 q10.2.2) [0, 3, 1, 2] [5, 7])), .rd icell 1 r7.1 [0, 1, 2, 3], .cells g5 (ic [0, 3, 1, 2]), .rd LaP.cs 3 r3.1 [⟨0, 0, 6⟩, ⟨0, 2, 5⟩, ⟨0, 2, 3⟩, ⟨0, 3, 5⟩]]) (fun w hw => hw.sub sb) ?_
  refine go ?_
  dsimp only [List.append]
  refine go ?_
  refine GoL.sl (Ef.lit (f := LaP.cs) (m := 3) (e := 83) [⟨0, 0, 6⟩, ⟨0, 2, 5⟩, ⟨0, 2, 3⟩, ⟨0, 3, 5⟩] (fun _ => rfl) rfl) (fun a15 c15 => ?_)
  refine go ?_
  refine GoL.cv (fun w' hw => xProofs [⟨0, 0, 6⟩, ⟨0, 2, 5⟩, ⟨0, 2, 3⟩, ⟨0, 3, 5⟩] r3.1 a15 r3.2 c15 w' (hw.rd pk) (hw.ownRd pk) (by decide)) ?_
  refine go ?_
  refine GoL.sl (Ef.lit (f := icell) (m := 1) (e := 3) [0, 3, 1, 2] (fun _ => rfl) rfl) (fun a16 c16 => ?_)
  refine go ?_
  refine GoL.cv (fun w' hw => xInts [0, 3, 1, 2] (some ⟨g5, 0, none⟩) a16 4 c16 w' (rdC (hw.cells pk)) (hw.ownRd pk) (by decide)) ?_
  refine go ?_
  refine GoL.sl (Ef.lit (f := icell) (m := 1) (e := 3) [0, 1, 2, 3] (fun _ => rfl) rfl) (fun a17 c17 => ?_)
  refine go ?_
  refine GoL.cv (fun w' hw => xInts [0, 1, 2, 3] r7.1 a17 r7.2 c17 w' (hw.rd pk) (hw.ownRd pk) (by decide)) ?_
  refine go ?_
  refine GoL.sl (Ef.lit (f := icell) (m := 1) (e := 3) [4210947, 5, 7, 10518531, 0] (fun _ => rfl) rfl) (fun a18 c18 => ?_)
  refine go ?_
  refine GoL.cv (fun w' hw => xInts [4210947, 5, 7, 10518531, 0] (some ⟨g13, 0, none⟩) a18 128 c18 w' (by rw [← ex_lay q10.1 q10.2.1 q10.2.2]; exact (rdC (hw.cells pk)).take 5) (hw.ownRd pk) (by decide)) ?_
  refine go ?_
  exact ev1 rfl
end

section
set_option linter.all false
set_option pp.maxSteps 100000
set_option maxRecDepth 100000
set_option maxHeartbeats 4000000
open Go.RowKit

theorem costs_walk (t : TD) (lay : List Int) (al : Option Addr) (cl : Nat) (w : World) (hn : t.Len) (hT : t.At w) (hl : Rd icell 1 w al lay) (hll : lay.length ≤ 9223372036854775807 ∧ lay.length ≤ cl) :
    Calls Tryz.prog 3 #[.agg #[.slice t.ao t.os.length t.co, .int .i64 t.data, .int .i64 t.lines, .slice t.ap t.ps.length t.cp], .slice al lay.length cl] w (fun e w' => e = .returned (.bool true) ∧ Below w.heap.size w w') := by
  obtain ⟨⟨p, i, e⟩, hr⟩ : ∃ q : Int × Int × Int, q = chkL t := ⟨_, rfl⟩
  have hR := hid hr
  clear hr
  refine go_in Tryz.func3 rfl Tryz.ntmps3 [] [] (Mem.start _) ?_
  refine go ?_
  refine GoL.a (fun b2 => ?_)
  refine go ?_
  refine GoL.cv (fun w' hw => check_v t p i e w' (hT.old hw) hn hR.out.symm) ?_
  refine go ?_
  refine GoL.cv (fun w' hw => rcheck_v t p i e w' (hT.old hw) hn hR.out.symm) ?_
  refine go ?_
  refine GoL.cv (fun w' hw => Cost_v t lay al cl w' hn (hT.old hw) (hw.old hl) hll) ?_
  refine go ?_
  refine GoL.cv (fun w' hw => rCost_v t lay al cl w' hn (hT.old hw) (hw.old hl) hll) ?_
  refine go ?_
  refine GoL.cv (fun w' hw => awake_v w') ?_
  refine go ?_
  exact ev1 rfl
end

section

open Go.ChangeShapes Go.WideShapes Go.ChangeAt Go.RowKit Go.Deep

section
variable {H : Type} {enc : TypeId × Value → H} {P : Program} {w : World} {spare : Nat → Bool}

/-- a slice whose elements each read as some α with cells f -/
theorem open_rows {α : Type} [Inhabited α] {f : α → List Value} {m : Nat} {t e : TypeId} {ok : α → Prop} {fuel : Nat} {cs : List Value} {x : DataW H × List MemPlace} (ht : P.underlying t = some (.slice e)) (hC : P.cellsOf e = m)
    (hel : ∀ (n : Nat) (cs' : List Value) (z : DataW H × List MemPlace), cs'.length = m → DataW.trod enc P w 0 spare true n e cs' = some z → ∃ y : α, cs' = f y ∧ ok y) (hm : 0 < m) (h : DataW.trod enc P w 0 spare true fuel t cs = some x) (hlt : ∀ p ∈ x.2, p.block < w.heap.size) :
    ∃ a c, ∃ l : List α, cs = [.slice a l.length c] ∧ Rd f m w a l ∧ l.length ≤ maxLen ∧ ∀ y ∈ l, ok y := by
  rcases open_slice ht h with ⟨rfl, _⟩ | ⟨a, len, cap, m', n, D, Pl, rfl, _, hl, hcap, hm', rfl, hi⟩
  · exact ⟨none, 0, [], rfl, .inl rfl, Nat.zero_le _, fun y hy => by cases hy⟩
  · rw [hC] at hi
    have hle : len ≤ m' := by rw [hm']; split <;> omega
    have hex : ∀ i, i < len → ∃ y : α, (∀ j v, (f y)[j]? = some v → w.cell? (a.add (i * m + j)) = some v) ∧ (f y).length = m ∧ ok y := by
      intro i hilt
      obtain ⟨cs', hc, htr⟩ := hi i (by omega)
      obtain ⟨_, hlen, hcell⟩ := World.cells?_some hc
      obtain ⟨y, rfl, hok⟩ := hel n cs' _ hlen htr
      refine ⟨y, fun j v hv => ?_, hlen, hok⟩
      have hj : j < m := by
        rcases Nat.lt_or_ge j m with h | h
        · exact h
        · rw [List.getElem?_eq_none (by omega)] at hv; cases hv
      rw [← Go.Deep.add_add, hcell j hj, hv]
    obtain ⟨g, hg⟩ := choose_lt hex
    refine ⟨some a, cap, (List.range len).map g, by simp, ?_, by simp; omega, fun y hy => ?_⟩
    · by_cases h0 : len = 0
      · subst h0; exact .inl rfl
      · have h00 := hg 0 (by omega)
        obtain ⟨b, off, spot⟩ := a
        have hz : ∃ v, (f (g 0))[0]? = some v := ⟨_, List.getElem?_eq_getElem (by rw [h00.2.1]; exact hm)⟩
        obtain ⟨v0, hv0⟩ := hz
        have hc0 := h00.1 0 v0 hv0
        have hspot : spot = none := by simpa [Addr.add] using World.cell?_spot hc0
        subst hspot
        refine .inr ⟨b, off, rfl, ?_, fun i y hy j v hv => ?_⟩
        · have : MemPlace.cell b off ∈ MemPlace.row ⟨b, off, none⟩ (m' * P.cellsOf e) ++ (List.range m').flatMap Pl := by
            refine List.mem_append_left _ ?_
            have hpos : 0 < m' * P.cellsOf e := Nat.mul_pos (by omega) (by omega)
            simp only [MemPlace.row, List.mem_map, List.mem_range]
            exact ⟨0, hpos, by simp⟩
          exact hlt _ this
        · have hil : i < len := by
            rcases Nat.lt_or_ge i len with h | h
            · exact h
            · rw [List.getElem?_eq_none (by simpa using h)] at hy; cases hy
          rw [List.getElem?_eq_getElem (by simpa using hil)] at hy
          obtain rfl : g i = y := by simpa using hy
          have := (hg i hil).1 j v hv
          rw [Go.WideShapes.add_plain] at this
          rw [Nat.add_assoc]; exact this
    · obtain ⟨i, hi', rfl⟩ := List.mem_map.1 hy
      exact (hg i (by simpa using hi')).2.2
end

/-- THE POST of a law that leaves old memory alone. -/
theorem trodAll_below {H : Type} {enc : TypeId × Value → H} {P : Program} {W W' : World} (hl : laidOutB P = true) (hb : Below W.heap.size W W') {sp : Nat → Bool} : ∀ {ts : List TypeId} {vs : List Value} {ds : List (DataW H)} {ps : List MemPlace},
    (∀ t ∈ ts, P.readableRec t = true ∧ t < P.types.size) → DataW.TrodAll enc P W 0 (fun _ => true) true ts vs ds ps → (∀ p ∈ ps, p.block < W.heap.size) → (∀ p ∈ ps, sp p.block = true) → DataW.TrodAll enc P W' 0 sp true ts vs ds ps
  | [], [], [], _, _, h, _, _ => h
  | _ :: _, _ :: _, _ :: _, _, hT, ⟨p, q, h1, h2, e⟩, hlt, hs => by
    subst e
    refine ⟨p, q, WideElems.Trod_stays hl (hT _ (by simp)).1 (hT _ (by simp)).2 h1 (fun x hx => hb.same (hlt x (by simp [hx]))) (fun x hx => hs x (by simp [hx])), trodAll_below hl hb (fun t ht => hT t (by simp [ht])) h2 (fun x hx => hlt x (by simp [hx])) (fun x hx => hs x (by simp [hx])), rfl⟩

theorem post_law {H : Type} {enc : TypeId × Value → H} {P : Program} {f : Func} {s : ChangeSpec} {apart : Bool} {W W' : World} {args : Array Value} {ds : List (DataW H)} {before : List MemPlace} {tb : TypeId}
    (hl : laidOutB P = true) (hr : ∀ t ∈ f.params.toList, P.readableRec t = true ∧ t < P.types.size) (hres : f.resultTypes = #[tb]) (hbool : P.underlying tb = some .bool)
    (hW : DataW.Whole enc P f.params.toList s.vars apart W args.toList ds [] before) (hvs : s.vars = []) (hfn : s.fn H ds = { results := [.lit (.bool true)], args := ds }) (hb : Below W.heap.size W W') :
    s.post enc P f apart true false false W args (.bool true) W' := by
  have hlt : ∀ p ∈ before, p.block < W.heap.size := fun p hp => hW.lt p hp
  have hfn' : s.fn H (ds ++ []) = { results := [.lit (.bool true)], args := ds } := by rw [List.append_nil]; exact hfn
  have hW0 := hW
  obtain ⟨pa, pv, hA, hV, hps, hz, hn⟩ := hW
  rw [hvs] at hV
  obtain ⟨_, rfl⟩ := trodVars_none hV
  simp only [List.append_nil] at hps
  subst hps
  have hargs : ∀ sp : Nat → Bool, (∀ p ∈ before, sp p.block = true) → DataW.TrodAll enc P W' 0 sp true f.params.toList args.toList ds before := fun sp hsp => trodAll_below hl hb hr hA hlt hsp
  have hresl : ∀ (b : Nat) (sp : Nat → Bool) (hd : Bool), DataW.TrodAll enc P W' b sp hd f.resultTypes.toList ((Value.bool true).resultList f.resultTypes.size) [.lit (.bool true)] [] := by
    intro b sp hd
    rw [hres]
    exact trodAll_mk1 (shut_bool hbool true)
  have hok : ∀ (j : Nat) (t : TypeId) (r : Value), f.resultTypes[j]? = some t → ((Value.bool true).resultList f.resultTypes.size)[j]? = some r → Value.okWide P W' .any 0 t r := ok_one hres rfl (okWide_bool_mk hbool true)
  have hargs' : ∀ sp : Nat → Bool, (∀ p ∈ before, sp p.block = true) → DataW.TrodAll enc P W' 0 sp true f.params.toList args.toList (s.fn H (ds ++ [])).args before := by rw [hfn']; exact hargs
  have hresl' : ∀ (b : Nat) (sp : Nat → Bool) (hd : Bool), DataW.TrodAll enc P W' b sp hd f.resultTypes.toList ((Value.bool true).resultList f.resultTypes.size) (s.fn H (ds ++ [])).results [] := by rw [hfn']; exact hresl
  have hvars' : ∀ sp : Nat → Bool, DataW.TrodVars enc P W' sp s.vars (s.fn H (ds ++ [])).vars [] := by rw [hfn', hvs]; exact fun _ => rfl
  refine ⟨ds, [], before, [], before, [], hW0, hresl' _ _ _, hargs' _ (fun p hp => by simpa using hlt p hp), hvars' _, World.keptBut_mono (fun p hp => ⟨hp, by simpa using hp⟩) (hb.frame (· ∈ before)), fun _ => ?_⟩
  · refine ⟨hok, _, _, ([] ++ before) ++ [], ⟨[] ++ before, [], trodAll_append (hargs' _ (fun _ _ => rfl)) (hresl' _ _ _), hvars' _, rfl, ?_, ?_⟩, ?_⟩
    · intro b off hp
      have hin : MemPlace.cell b off ∈ before := by simpa using hp
      rw [hb.frozen (hlt _ hin)]
      exact hz b off hin
    · intro ha
      have := hn ha
      simpa using this
    · intro p hp _
      simpa using hp

/- this program -/
theorem own : ownKnob Tryz.prog.godebug = none := by kernel_rfl
theorem laidOut : laidOutB Tryz.prog = true := by kernel_rfl
end

section
set_option linter.all false
open Go.ChangeShapes Go.WideShapes Go.ChangeAt Go.RowKit Go.Deep

section
variable {H : Type} {P : Program} {enc : TypeId × Value → H} {w : World} {spare : Nat → Bool} {n : Nat}
theorem open_rows4 {α : Type} [Inhabited α] {f : α → List Value} {m : Nat} {t e : TypeId} {ok : α → Prop} {fuel : Nat} {cs : List Value} {x : DataW H × List MemPlace} (ht : P.underlying t = some (.slice e)) (hC : P.cellsOf e = m)
    (hel : ∀ (n : Nat) (cs' : List Value) (z : DataW H × List MemPlace), cs'.length = m → DataW.trod enc P w 0 spare true n e cs' = some z → (∀ p ∈ z.2, p.block < w.heap.size) → ∃ y : α, cs' = f y ∧ ok y) (hm : 0 < m) (h : DataW.trod enc P w 0 spare true fuel t cs = some x) (hlt : ∀ p ∈ x.2, p.block < w.heap.size) :
    ∃ a c, ∃ l : List α, cs = [.slice a l.length c] ∧ Rd f m w a l ∧ l.length ≤ maxLen ∧ l.length ≤ c ∧ ∀ y ∈ l, ok y := by
  rcases open_slice ht h with ⟨rfl, _⟩ | ⟨a, len, cap, m', n, D, Pl, rfl, _, hl, hcap, hm', rfl, hi⟩
  · exact ⟨none, 0, [], rfl, .inl rfl, Nat.zero_le _, Nat.le_refl _, fun y hy => by cases hy⟩
  · rw [hC] at hi
    have hle : len ≤ m' := by rw [hm']; split <;> omega
    have hex : ∀ i, i < len → ∃ y : α, (∀ j v, (f y)[j]? = some v → w.cell? (a.add (i * m + j)) = some v) ∧ (f y).length = m ∧ ok y := by
      intro i hilt; obtain ⟨cs', hc, htr⟩ := hi i (by omega); obtain ⟨_, hlen, hcell⟩ := World.cells?_some hc; obtain ⟨y, rfl, hok⟩ := hel n cs' _ hlen htr (fun p hp => hlt p (List.mem_append_right _ (List.mem_flatMap.2 ⟨i, List.mem_range.2 (by omega), hp⟩))); refine ⟨y, fun j v hv => ?_, hlen, hok⟩
      have hj : j < m := by
        rcases Nat.lt_or_ge j m with h | h
        · exact h
        · rw [List.getElem?_eq_none (by omega)] at hv; cases hv
      rw [← Go.Deep.add_add, hcell j hj, hv]
    obtain ⟨g, hg⟩ := choose_lt hex; refine ⟨some a, cap, (List.range len).map g, by simp, ?_, by simp; omega, by simp; omega, fun y hy => ?_⟩
    · by_cases h0 : len = 0
      · subst h0; exact .inl rfl
      · have h00 := hg 0 (by omega)
        obtain ⟨b, off, spot⟩ := a; have hz : ∃ v, (f (g 0))[0]? = some v := ⟨_, List.getElem?_eq_getElem (by rw [h00.2.1]; exact hm)⟩; obtain ⟨v0, hv0⟩ := hz; have hc0 := h00.1 0 v0 hv0
        have hspot : spot = none := by simpa [Addr.add] using World.cell?_spot hc0
        subst hspot; refine .inr ⟨b, off, rfl, ?_, fun i y hy j v hv => ?_⟩
        · have : MemPlace.cell b off ∈ MemPlace.row ⟨b, off, none⟩ (m' * P.cellsOf e) ++ (List.range m').flatMap Pl := by
            refine List.mem_append_left _ ?_; have hpos : 0 < m' * P.cellsOf e := Nat.mul_pos (by omega) (by omega)
            simp only [MemPlace.row, List.mem_map, List.mem_range]
            exact ⟨0, hpos, by simp⟩
          exact hlt _ this
        · have hil : i < len := by
            rcases Nat.lt_or_ge i len with h | h
            · exact h
            · rw [List.getElem?_eq_none (by simpa using h)] at hy; cases hy
          rw [List.getElem?_eq_getElem (by simpa using hil)] at hy
          obtain rfl : g i = y := by simpa using hy
          have := (hg i hil).1 j v hv; rw [Go.WideShapes.add_plain] at this; rw [Nat.add_assoc]; exact this
    · obtain ⟨i, hi', rfl⟩ := List.mem_map.1 hy
      exact (hg i (by simpa using hi')).2.2

end
section
variable {H : Type} {enc : TypeId × Value → H} {w : World} {spare : Nat → Bool} {n : Nat}
theorem fld_int {i : Nat} {xs : List (DataW H × List MemPlace)} {l : List Value} (hf : DataW.trod enc Tryz.prog w 0 spare true n 3 l = xs[i]?) (hi : i < xs.length) : ∃ k, l = [.int .i64 k] ∧ (-9223372036854775808 ≤ k ∧ k ≤ 9223372036854775807) := by
  rw [List.getElem?_eq_getElem hi] at hf; obtain ⟨k, hk, _, hw⟩ := DataW.trod_int Tryz.underlying3 hf; exact ⟨k, hk, bounds_i64 hw⟩
theorem okWide_array {P : Program} {w : World} {r : Reach} {base n : Nat} {t e : TypeId} {v : Value} (ht : P.underlying t = some (.array n e)) (h : Value.okWide P w r base t v) : ∃ cs, v = .agg cs ∧ cs.size = P.cellsOf t := by
  simp only [Value.okWide, ht] at h
  obtain ⟨cs, h1, h2, _⟩ := h; exact ⟨cs, h1, h2⟩
theorem fld_u8 {i : Nat} {xs : List (DataW H × List MemPlace)} {l : List Value} (hf : DataW.trod enc Tryz.prog w 0 spare true n 5 l = xs[i]?) (hi : i < xs.length) : ∃ k, l = [.int .u8 k] ∧ (0 ≤ k ∧ k ≤ 255) := by
  rw [List.getElem?_eq_getElem hi] at hf; obtain ⟨k, hk, _, hw⟩ := DataW.trod_int Tryz.underlying5 hf; exact ⟨k, hk, bounds_u8 hw⟩
set_option maxRecDepth 100000 in
theorem open_ord1 {cs : List Value} {x : DataW H × List MemPlace} (h : DataW.trod enc Tryz.prog w 0 spare true n 71 cs = some x) : ∃ s : LOrd, cs = LOrd.cs s := by
  obtain ⟨xs, n', _, _, hlen, hx, hf⟩ := DataW.trod_struct Tryz.underlying71 h; have hl : cs.length = 4 := hlen.trans (by kernel_rfl); have hxl : xs.length = 4 := hx.trans (by rfl)
  match cs, hl with
  | [c0, c1, c2, c3], _ =>
    obtain ⟨x0, h0, b0⟩ := fld_int (hf 0 _ rfl) (by omega); obtain ⟨x1, h1, b1⟩ := fld_int (hf 1 _ rfl) (by omega); obtain ⟨x2, h2, b2⟩ := fld_int (hf 2 _ rfl) (by omega); obtain ⟨x3, h3, b3⟩ := fld_int (hf 3 _ rfl) (by omega); refine ⟨⟨x0, x1, x2, x3⟩, ?_⟩
    have ec : Tryz.prog.cellsOf 3 = 1 := by kernel_rfl
    simp [ec] at h0 h1 h2 h3
    subst h0 h1 h2 h3; rfl
set_option maxRecDepth 100000 in
theorem open_int0 {fuel : Nat} {cs : List Value} {x : DataW H × List MemPlace} (h : DataW.trod enc Tryz.prog w 0 spare true fuel 26 cs = some x) (hlt : ∀ p ∈ x.2, p.block < w.heap.size) :
    ∃ a c, ∃ l : List Int, cs = [.slice a l.length c] ∧ Rd icell 1 w a l ∧ l.length ≤ 9223372036854775807 ∧ l.length ≤ c := by
  obtain ⟨a, c, l, hj, rj, nj, cj, _⟩ := open_rows4 (f := icell) (m := 1) (ok := fun _ : Int => True) Tryz.underlying26 (by kernel_rfl) (fun n cs' z _ hz _ => by obtain ⟨k, hk, _⟩ := DataW.trod_int Tryz.underlying3 hz; exact ⟨k, hk, trivial⟩) (by decide) h hlt; exact ⟨a, c, l, hj, rj, nj, cj⟩
/-- a path that an argument holds -/
def PthOk (w : World) (y : PthR) : Prop := Rd icell 1 w y.a y.os ∧ y.os.length ≤ 9223372036854775807 ∧ y.os.length ≤ y.c
set_option maxRecDepth 100000 in
theorem open_pth1 {cs : List Value} {x : DataW H × List MemPlace} (h : DataW.trod enc Tryz.prog w 0 spare true n 65 cs = some x) (hlt : ∀ q ∈ x.2, q.block < w.heap.size) : ∃ y : PthR, cs = y.cs ∧ PthOk w y := by
  obtain ⟨xs, n', _, hxe, hlen, hx, hf⟩ := DataW.trod_struct Tryz.underlying65 h; have hl : cs.length = 2 := hlen.trans (by kernel_rfl); have hxl : xs.length = 2 := hx.trans (by rfl)
  have ec : Tryz.prog.cellsOf 3 = 1 := by kernel_rfl
  have et : Tryz.prog.cellsOf 26 = 1 := by kernel_rfl
  match cs, hl, xs, hxl with
  | [c0, c1], _, [x0, x1], _ =>
    have h0 := hf 0 _ rfl
    obtain ⟨i1, g1, _⟩ := fld_int (hf 1 _ rfl) (by simp)
    simp [ec, et] at h0 g1
    obtain ⟨a0, d0, l0, j0, r0, n0, m0⟩ := open_int0 h0 (fun q hq => hlt q (by rw [hxe]; simp [hq]))
    simp at j0
    subst j0 g1; exact ⟨⟨l0, i1, a0, d0⟩, rfl, r0, n0, m0⟩
set_option maxRecDepth 100000 in
theorem open_task {base : Nat} {v : Value} {d : DataW H} {p : List MemPlace} (hv : Value.okWide Tryz.prog w .any base 25 v) (h : DataW.Trod enc Tryz.prog w 0 spare true 25 v d p) (hlt : ∀ x ∈ p, x.block < w.heap.size) :
    ∃ t : TD, v = .agg #[.slice t.ao t.os.length t.co, .int .i64 t.data, .int .i64 t.lines, .slice t.ap t.ps.length t.cp] ∧ t.At w ∧ t.Len ∧ t.os.length ≤ t.co ∧ t.ps.length ≤ t.cp := by
  obtain ⟨cs0, rfl, hsz⟩ := okWide_struct Tryz.underlying25 hv; obtain ⟨fuel, hf0⟩ := h; have e : Value.cells (.agg cs0) = cs0 := rfl; rw [e] at hf0; obtain ⟨xs, n', _, hxe, hlen, hx, hf⟩ := DataW.trod_struct Tryz.underlying25 hf0; have hl : cs0.toList.length = 4 := hlen.trans (by kernel_rfl); have hxl : xs.length = 4 := hx.trans (by rfl)
  have ec : Tryz.prog.cellsOf 3 = 1 := by kernel_rfl
  have eo : Tryz.prog.cellsOf 22 = 1 := by kernel_rfl
  have ep : Tryz.prog.cellsOf 23 = 1 := by kernel_rfl
  obtain ⟨cs0⟩ := cs0
  match cs0, hl, xs, hxl with
  | [c0, c1, c2, c3], _, [x0, x1, x2, x3], _ =>
    have h0 := hf 0 _ rfl; have h3 := hf 3 _ rfl; have hp := congrArg Prod.snd hxe
    simp only at hp
    obtain ⟨i1, g1, _⟩ := fld_int (hf 1 _ rfl) (by simp); obtain ⟨i2, g2, _⟩ := fld_int (hf 2 _ rfl) (by simp)
    simp [ec, eo, ep] at h0 h3 g1 g2
    obtain ⟨a0, d0, l0, j0, r0, n0, m0, _⟩ := open_rows4 (f := LOrd.cs) (m := 4) (ok := fun _ : LOrd => True) Tryz.underlying22 (by kernel_rfl) (fun n cs' z _ hz _ => (open_ord1 hz).imp fun _ e => ⟨e, trivial⟩) (by decide) h0 (fun q hq => hlt q (by rw [hp]; simp [hq]))
    obtain ⟨a3, d3, l3, j3, r3, n3, m3, k3⟩ := open_rows4 (f := PthR.cs) (m := 2) (ok := PthOk w) Tryz.underlying23 (by kernel_rfl) (fun n cs' z _ hz hlt' => open_pth1 hz hlt') (by decide) h3 (fun q hq => hlt q (by rw [hp]; simp [hq]))
    simp at j0 j3
    subst j0 j3 g1 g2
    unfold maxLen at n0 n3
    exact ⟨⟨l0, i1, i2, l3, a0, d0, a3, d3⟩, rfl, ⟨r0, r3, fun y hy => (k3 y hy).1⟩, ⟨by show l0.length ≤ _; omega, by show l3.length ≤ _; omega, fun y hy => (k3 y hy).2⟩, m0, m3⟩
set_option maxRecDepth 100000 in
theorem open_ints {base : Nat} {v : Value} {d : DataW H} {p : List MemPlace} (hv : Value.okWide Tryz.prog w .any base 26 v) (h : DataW.Trod enc Tryz.prog w 0 spare true 26 v d p) (hlt : ∀ x ∈ p, x.block < w.heap.size) :
    ∃ (l : List Int) (a : Option Addr) (c : Nat), v = .slice a l.length c ∧ Rd icell 1 w a l ∧ l.length ≤ 9223372036854775807 ∧ l.length ≤ c := by
  obtain ⟨a0, len, cap, rfl⟩ := okWide_slice Tryz.underlying26 hv; obtain ⟨fuel, hf0⟩ := h; obtain ⟨a, c, l, hj, rj, nj, cj⟩ := open_int0 hf0 (fun q hq => hlt q hq)
  simp [Value.cells] at hj
  obtain ⟨rfl, rfl, rfl⟩ := hj; exact ⟨l, a0, cap, rfl, rj, nj, cj⟩
end
end

section
set_option linter.all false
section
variable {it : Nat → Int}
theorem innB_cand {sm : Nat → Bool} {f : Nat → Int} {n0 : Int} {z : Nat} : ∀ k w, z < w → w ≤ z + k → sm w = true → f w ≤ (innB sm f n0 z k).1
  | 0, w, h1, h2, _ => by omega
  | k + 1, w, h1, h2, h3 => by
    simp only [innB]
    by_cases e : w = z + 1 + k
    · subst e
      split
      · exact Int.le_refl _
      · rename_i h; exact Int.not_lt.1 fun g => h ⟨h3, g⟩
    · have ih := innB_cand (sm := sm) (f := f) (n0 := n0) (z := z) k w h1 (by omega) h3
      split
      · rename_i h; simp only; omega
      · exact ih
theorem innB_val {sm : Nat → Bool} {f : Nat → Int} {n0 : Int} {z : Nat} : ∀ k, ((innB sm f n0 z k).2 = -1 ∧ (innB sm f n0 z k).1 = n0) ∨ ∃ w : Nat, (innB sm f n0 z k).2 = (w : Int) ∧ (innB sm f n0 z k).1 = f w
  | 0 => .inl ⟨rfl, rfl⟩
  | k + 1 => by
    simp only [innB]; split
    · exact .inr ⟨_, rfl, rfl⟩
    · exact innB_val k
theorem D_step {a y : Nat} (h : a < y) : Dv it a (y - 1) + 1 ≤ Dv it a y := by
  rw [Dv_eq h]; exact (maxB_ge (y - a)).1
theorem D_cand {a z y : Nat} (h1 : a ≤ z) (h2 : z < y) (h3 : it z = it y) : Dv it a z + Rv it z y ≤ Dv it a y := by
  rw [Dv_eq (by omega : a < y)]
  exact (maxB_ge (sm := fun z => decide (it z = it y)) (f := fun z => Dv it a z + Rv it z y) (n0 := Dv it a (y - 1) + 1) (a := a) (y - a)).2 z h1 (by omega) (by simpa using h3)
theorem D_cases {a y : Nat} (h : a < y) : Dv it a y = Dv it a (y - 1) + 1 ∨ ∃ z, a ≤ z ∧ z < y ∧ it z = it y ∧ Dv it a y = Dv it a z + Rv it z y := by
  have he := Dv_eq (it := it) h
  rcases maxB_at (sm := fun z => decide (it z = it y)) (f := fun z => Dv it a z + Rv it z y) (n0 := Dv it a (y - 1) + 1) (a := a) (y - a) with h1 | ⟨z, h2, h3, h4, h5⟩
  · exact .inl (he.trans h1)
  · exact .inr ⟨z, h2, by omega, by simpa using h4, he.trans h5⟩
theorem D_ge {a : Nat} : ∀ y, a ≤ y → (y : Int) - a ≤ Dv it a y
  | 0, h => by
    obtain rfl : a = 0 := by omega
    rw [Dv_out (Nat.le_refl _)]; omega
  | y + 1, h => by
    by_cases e : a = y + 1
    · rw [e, Dv_out (Nat.le_refl _)]; omega
    · have := D_ge (a := a) y (by omega)
      have h2 := D_step (it := it) (a := a) (y := y + 1) (by omega)
      rw [Nat.add_sub_cancel] at h2
      push_cast; omega
theorem D_super {a b : Nat} (hab : a ≤ b) : ∀ c, b ≤ c → Dv it a b + Dv it b c ≤ Dv it a c := by
  intro c
  induction c using Nat.strongRecOn with
  | _ c ih =>
    intro hbc
    by_cases e : b = c
    · subst e; rw [Dv_out (a := b) (Nat.le_refl _)]; omega
    · rcases D_cases (it := it) (a := b) (y := c) (by omega) with h | ⟨z, h1, h2, h3, h4⟩
      · have h5 := ih (c - 1) (by omega) (by omega)
        have h6 := D_step (it := it) (a := a) (y := c) (by omega)
        omega
      · have h5 := ih z h2 h1
        have h6 := D_cand (it := it) (a := a) (z := z) (y := c) (by omega) h2 h3
        omega
theorem I_step {z y : Nat} : Dv it z (y - 1) + 1 ≤ (innV it z y).1 := innB_ge _
theorem I_cand {z w y : Nat} (h1 : z < w) (h2 : w < y) (h3 : it w = it y) : Dv it z w + Rv it w y ≤ (innV it z y).1 :=
  innB_cand (sm := fun w => decide (it w = it y)) (f := fun w => Dv it z w + Rv it w y) _ w h1 (by omega) (by simpa using h3)
theorem I_val {z y : Nat} : ((innV it z y).2 < 0 ∧ (innV it z y).1 = Dv it z (y - 1) + 1) ∨ (¬ (innV it z y).2 < 0 ∧ (innV it z y).1 = Dv it z (innV it z y).2.toNat + Rv it (innV it z y).2.toNat y) := by
  rcases innB_val (sm := fun w => decide (it w = it y)) (f := fun w => Dv it z w + Rv it w y) (n0 := Dv it z (y - 1) + 1) (z := z) (y - 1 - z) with ⟨h1, h2⟩ | ⟨w, h1, h2⟩
  · exact .inl ⟨by show (innB _ _ _ z _).2 < 0; omega, h2⟩
  · have e : (innV it z y).2 = (w : Int) := h1
    rw [e]
    exact .inr ⟨by omega, h2⟩
theorem I_le {z y : Nat} (h : z < y) : (innV it z y).1 ≤ Dv it z y := by
  rcases I_val (it := it) (z := z) (y := y) with ⟨_, h2⟩ | ⟨h1, h2⟩
  · rw [h2]; exact D_step h
  · have h3 := innV_from (it := it) h1
    rw [h2]; exact D_cand (by omega) h3.2.1 h3.2.2.1
theorem R_val {z y : Nat} (h : z < y) (hi : it z = it y) : Rv it z y = upI (innV it z y).1 := by rw [Rv_eq h, if_pos hi]
theorem D_pair {a z y c : Nat} (h1 : a ≤ z) (h2 : z < y) (h3 : y ≤ c) (hi : it z = it y) : (z : Int) - a + Rv it z y + Dv it y c ≤ Dv it a c := by
  have e1 := D_ge (it := it) z h1
  have e2 := D_cand (it := it) h1 h2 hi
  have e3 := D_super (it := it) (a := a) (b := y) (by omega) c h3
  omega
theorem I_pair {a z y c : Nat} (h1 : a ≤ z) (h2 : z < y) (h3 : y ≤ c) (hi : it z = it y) (hne : ¬ (z = a ∧ y = c)) : (z : Int) - a + Rv it z y + Dv it y c ≤ (innV it a c).1 := by
  by_cases e : y = c
  · subst e
    have h4 := I_cand (it := it) (z := a) (w := z) (y := y) (by omega) h2 hi
    have h5 := D_ge (it := it) z h1
    rw [Dv_out (a := y) (Nat.le_refl _)]; omega
  · rcases D_cases (it := it) (a := y) (y := c) (by omega) with h | ⟨w, g1, g2, g3, g4⟩
    · have h4 := D_pair (it := it) (c := c - 1) h1 h2 (by omega) hi
      have h5 := I_step (it := it) (z := a) (y := c)
      omega
    · have h4 := D_pair (it := it) (c := w) h1 h2 g1 hi
      have h5 := I_cand (it := it) (z := a) (w := w) (y := c) (by omega) g2 g3
      omega
/-- a pair that has been judged -/
def Jd (it : Nat → Int) (path : Int) (l : List LaP) : Prop := ∀ p ∈ l, p.path = path → 0 ≤ p.fr ∧ p.fr < p.tt ∧ it p.fr.toNat = it p.tt.toNat
theorem upI_mono {a b : Int} (h : a ≤ b) : upI a ≤ upI b := by unfold upI; omega
/-- no proof is worth more -/
theorem valA_le {path : Int} : ∀ k (fr tt : Nat) l (a : Nat) n v l', Jd it path l → fr < tt → fr ≤ a → a ≤ tt → valA k path fr tt l a n = some (v, l') →
    l' <:+ l ∧ v ≤ n + (if a = fr then (innV it fr tt).1 else Dv it a tt)
  | 0, _, _, _, _, _, _, _, _, _, _, _, h => by simp [valA] at h
  | k + 1, fr, tt, l, a, n, v, l', hJ, h1, h2, h3, h => by
    have hz : (tt : Int) - a ≤ (if a = fr then (innV it fr tt).1 else Dv it a tt) := by
      split
      · rename_i e; subst e
        have g1 := I_step (it := it) (z := a) (y := tt)
        have g2 := D_ge (it := it) (a := a) (tt - 1) (by omega)
        omega
      · exact D_ge tt h3
    cases l with
    | nil =>
      simp only [valA, Option.some.injEq, Prod.mk.injEq] at h
      obtain ⟨rfl, rfl⟩ := h
      exact ⟨List.suffix_refl _, by omega⟩
    | cons p r =>
      simp only [valA] at h
      split at h
      · rename_i g
        split at h
        · cases h
        rename_i g2
        have hp := hJ p (by simp) g.1
        have hJr : Jd it path r := fun x hx => hJ x (by simp [hx])
        cases hi : valA k path p.fr p.tt r p.fr 0 with
        | none => rw [hi] at h; cases h
        | some q =>
          obtain ⟨u, l2⟩ := q
          rw [hi] at h
          simp only at h
          obtain ⟨z, hz1⟩ : ∃ z : Nat, p.fr = z := ⟨p.fr.toNat, by omega⟩
          obtain ⟨y, hy1⟩ : ∃ y : Nat, p.tt = y := ⟨p.tt.toNat, by omega⟩
          rw [hz1, hy1] at hi h
          rw [hz1, hy1] at hp
          have hit : it z = it y := by simpa using hp.2.2
          have hzy : z < y := by omega
          obtain ⟨s1, b1⟩ := valA_le k z y r z 0 u l2 hJr hzy (Nat.le_refl _) (by omega) hi
          rw [if_pos rfl] at b1
          have hJ2 : Jd it path l2 := fun x hx => hJr x (s1.subset hx)
          obtain ⟨s2, b2⟩ := valA_le k fr tt l2 y _ v l' hJ2 h1 (by omega) (by omega) h
          refine ⟨(s2.trans s1).trans (List.suffix_cons _ _), ?_⟩
          rw [if_neg (by omega)] at b2
          have hu := upI_mono (show u ≤ (innV it z y).1 by omega)
          rw [← R_val hzy hit] at hu
          have hne : ¬ (z = fr ∧ y = tt) := fun e => g2 (.inr (.inr (by
            obtain ⟨pp, pf, pt⟩ := p
            obtain ⟨e1, e2⟩ := e
            simp only at g hz1 hy1
            obtain ⟨rfl, _⟩ := g
            simp only [LaP.mk.injEq, true_and]
            omega)))
          split
          · rename_i e; subst e
            have := I_pair (it := it) (a := a) (z := z) (y := y) (c := tt) (by omega) hzy (by omega) hit hne
            omega
          · have := D_pair (it := it) (a := a) (z := z) (y := y) (c := tt) (by omega) hzy (by omega) hit
            omega
      · simp only [Option.some.injEq, Prod.mk.injEq] at h
        obtain ⟨rfl, rfl⟩ := h
        exact ⟨List.suffix_refl _, by omega⟩
/- the proof of the task is worth its bound -/
def toP (path : Int) (l : List (Nat × Nat)) : List LaP := l.map fun q => LaP.mk path q.1 q.2
/-- what follows is not taken by a pair that ends at y -/
def Nx (path : Int) (y : Nat) (R : List LaP) : Prop := ∀ p r, R = p :: r → p.path = path → (y : Int) ≤ p.fr
theorem prs_srt {path : Int} : ∀ k b a y, a ≤ y → (b = false → a < y ∧ it a = it y) → SrtP (toP path (prs it k b a y))
  | 0, _, _, _, _, _ => by simp [prs, toP, SrtP]
  | k + 1, true, a, y, h, _ => by
    simp only [prs]
    split
    · simp [toP, SrtP]
    rename_i h1
    split
    · exact prs_srt k true a (y - 1) (by omega) (fun h => by cases h)
    · rename_i h2
      obtain ⟨g1, g2, g3, _⟩ := fstZ_ok (it := it) (a := a) (y := y) (by omega) h2
      have hit : it (fstZ it a y) = it y := by simp [atZ] at g3; exact g3.1
      have s1 := prs_srt (path := path) k true a (fstZ it a y) g1 (fun h => by cases h)
      have s2 := prs_srt (path := path) k false (fstZ it a y) y (by omega) (fun _ => ⟨g2, hit⟩)
      have m1 := prs_ok (it := it) k true a (fstZ it a y) g1 (fun h => by cases h)
      have m2 := prs_ok (it := it) k false (fstZ it a y) y (by omega) (fun _ => ⟨g2, hit⟩)
      unfold SrtP toP at s1 s2 ⊢
      rw [List.map_append, List.map_cons, List.pairwise_append, List.pairwise_cons]
      refine ⟨s1, ⟨fun p hp => ?_, s2⟩, fun p hp q hq => ?_⟩
      · obtain ⟨x, hx, rfl⟩ := List.mem_map.1 hp
        have := m2 x hx
        rw [ltP_false]; dsimp only; omega
      · obtain ⟨x, hx, rfl⟩ := List.mem_map.1 hp
        have h3 := m1 x hx
        rcases List.mem_cons.1 hq with rfl | hq
        · rw [ltP_false]; dsimp only; omega
        · obtain ⟨w, hw, rfl⟩ := List.mem_map.1 hq
          have := m2 w hw
          rw [ltP_false]; dsimp only; omega
  | k + 1, false, z, y, h, h0 => by
    simp only [prs]
    split
    · exact prs_srt k true z (y - 1) (by have := h0 rfl; omega) (fun h => by cases h)
    · rename_i h2
      obtain ⟨g1, g2, g3, _⟩ := innV_from (it := it) h2
      have s1 := prs_srt (path := path) k true z (innV it z y).2.toNat (by omega) (fun h => by cases h)
      have s2 := prs_srt (path := path) k false (innV it z y).2.toNat y (by omega) (fun _ => ⟨g2, g3⟩)
      have m1 := prs_ok (it := it) k true z (innV it z y).2.toNat (by omega) (fun h => by cases h)
      have m2 := prs_ok (it := it) k false (innV it z y).2.toNat y (by omega) (fun _ => ⟨g2, g3⟩)
      unfold SrtP toP at s1 s2 ⊢
      rw [List.map_append, List.map_cons, List.pairwise_append, List.pairwise_cons]
      refine ⟨s1, ⟨fun p hp => ?_, s2⟩, fun p hp q hq => ?_⟩
      · obtain ⟨x, hx, rfl⟩ := List.mem_map.1 hp
        have := m2 x hx
        rw [ltP_false]; dsimp only; omega
      · obtain ⟨x, hx, rfl⟩ := List.mem_map.1 hp
        have h3 := m1 x hx
        rcases List.mem_cons.1 hq with rfl | hq
        · rw [ltP_false]; dsimp only; omega
        · obtain ⟨w, hw, rfl⟩ := List.mem_map.1 hq
          have := m2 w hw
          rw [ltP_false]; dsimp only; omega

theorem valA_stop {path : Int} {K y at_ : Nat} {fr tt a n : Int} {R : List LaP} (hK : 0 < K) (hN : Nx path y R) (ht : tt = y) : valA K path fr tt R a n = some (n + tt - a, R) := by
  cases K with
  | zero => omega
  | succ K =>
    cases R with
    | nil => rfl
    | cons p r =>
      simp only [valA]
      rw [if_neg fun h => ?_]
      have := hN p r rfl h.1
      omega
theorem toP_cons (path : Int) (q : Nat × Nat) (l : List (Nat × Nat)) : toP path (q :: l) = ⟨path, q.1, q.2⟩ :: toP path l := rfl
theorem toP_app (path : Int) (l m : List (Nat × Nat)) : toP path (l ++ m) = toP path l ++ toP path m := by simp [toP]
theorem prs_val {path : Int} : ∀ k,
    (∀ a y, a ≤ y → prD true a y ≤ k → ∀ K (fr tt at_ : Nat) (n : Int) R, at_ ≤ a → y ≤ tt → (∀ q ∈ prs it k true a y, ¬ (q.1 = fr ∧ q.2 = tt)) → Nx path y R → (toP path (prs it k true a y) ++ R).length < K →
      ∃ (K' at' : Nat) (n' : Int), at_ ≤ at' ∧ at' ≤ y ∧ R.length < K' ∧ n' + ((y : Int) - at') = n + ((a : Int) - at_) + Dv it a y ∧ valA K path fr tt (toP path (prs it k true a y) ++ R) at_ n = valA K' path fr tt R at' n') ∧
    (∀ z y, z < y → it z = it y → prD false z y ≤ k → ∀ K R, Nx path y R → (toP path (prs it k false z y) ++ R).length < K → valA K path z y (toP path (prs it k false z y) ++ R) z 0 = some ((innV it z y).1, R))
  | 0 => ⟨fun a y h hk => by simp [prD] at hk, fun z y h _ hk => by simp [prD] at hk; omega⟩
  | k + 1 => by
    obtain ⟨iht, ihf⟩ := prs_val (path := path) k
    constructor
    · intro a y hay hk K fr tt at_ n R h1 h2 h3 hN hK
      simp only [prs] at h3 hK ⊢
      simp only [prD, if_true] at hk
      by_cases e : a = y
      · subst e
        rw [if_pos rfl] at hK ⊢
        refine ⟨K, at_, n, Nat.le_refl _, h1, by simpa [toP] using hK, ?_, by simp [toP]⟩
        rw [Dv_out (Nat.le_refl _)]; omega
      rw [if_neg e] at h3 hK ⊢
      by_cases e2 : Dv it a y = Dv it a (y - 1) + 1
      · rw [if_pos e2] at h3 hK ⊢
        obtain ⟨K', at', n', g1, g2, g3, g4, g5⟩ := iht a (y - 1) (by omega) (by simp only [prD, if_true]; omega) K fr tt at_ n R h1 (by omega) h3 (fun p r hr hp => by have := hN p r hr hp; omega) hK
        exact ⟨K', at', n', g1, by omega, g3, by omega, g5⟩
      rw [if_neg e2] at h3 hK ⊢
      obtain ⟨f1, f2, f3, _⟩ := fstZ_ok (it := it) (a := a) (y := y) (by omega) e2
      have hit : it (fstZ it a y) = it y ∧ Dv it a (fstZ it a y) + Rv it (fstZ it a y) y = Dv it a y := by simpa [atZ] using f3
      generalize fstZ it a y = z at *
      rw [toP_app, toP_cons, List.append_assoc, List.cons_append] at hK ⊢
      obtain ⟨K1, a1, n1, g1, g2, g3, g4, g5⟩ := iht a z f1 (by simp only [prD, if_true]; omega) K fr tt at_ n _ h1 (by omega) (fun q hq => h3 q (List.mem_append.2 (.inl hq))) (fun p r hr hp => by
        simp only [List.cons.injEq] at hr; rw [← hr.1]; exact Int.le_refl _) hK
      rw [g5]
      obtain ⟨K2, rfl⟩ : ∃ K2, K1 = K2 + 1 := ⟨K1 - 1, by omega⟩
      have hin := ihf z y f2 hit.1 (by simp only [prD]; simp; omega) K2 R hN (by simp only [List.length_cons] at g3; omega)
      have hne := h3 (z, y) (by simp)
      refine ⟨K2, y, n1 + ((z : Int) - a1 + upI (innV it z y).1), by omega, Nat.le_refl _, by simp at g3; omega, ?_, ?_⟩
      · rw [← R_val f2 hit.1]; omega
      · simp only [valA]
        rw [if_pos ⟨trivial, by omega⟩, if_neg, hin]
        rintro (h | h | h)
        · omega
        · omega
        · simp only [LaP.mk.injEq, true_and] at h; exact hne ⟨by dsimp only; omega, by dsimp only; omega⟩
    · intro z y hzy hit hk K R hN hK
      simp only [prs] at hK ⊢
      simp only [prD] at hk
      rcases I_val (it := it) (z := z) (y := y) with ⟨e, hv⟩ | ⟨e, hv⟩
      · rw [if_pos e] at hK ⊢
        have hm := prs_ok (it := it) k true z (y - 1) (by omega) (fun h => by cases h)
        obtain ⟨K', at', n', g1, g2, g3, g4, g5⟩ := iht z (y - 1) (by omega) (by simp only [prD, if_true]; simp at hk; omega) K z y z 0 R (Nat.le_refl _) (by omega) (fun q hq h => by have := hm q hq; omega) (fun p r hr hp => by have := hN p r hr hp; omega) hK
        rw [g5, valA_stop (at_ := 0) (by omega) hN rfl, hv]
        congr 2; omega
      · rw [if_neg e] at hK ⊢
        obtain ⟨f1, f2, f3, _⟩ := innV_from (it := it) e
        generalize (innV it z y).2.toNat = w at *
        have hm := prs_ok (it := it) k true z w (by omega) (fun h => by cases h)
        rw [toP_app, toP_cons, List.append_assoc, List.cons_append] at hK ⊢
        obtain ⟨K1, a1, n1, g1, g2, g3, g4, g5⟩ := iht z w (by omega) (by simp only [prD, if_true]; simp at hk; omega) K z y z 0 _ (Nat.le_refl _) (by omega) (fun q hq h => by have := hm q hq; omega) (fun p r hr hp => by
          simp only [List.cons.injEq] at hr; rw [← hr.1]; exact Int.le_refl _) hK
        rw [g5]
        obtain ⟨K2, rfl⟩ : ∃ K2, K1 = K2 + 1 := ⟨K1 - 1, by omega⟩
        have hin := ihf w y f2 f3 (by simp only [prD]; simp at hk ⊢; omega) K2 R hN (by simp only [List.length_cons] at g3; omega)
        simp only [valA]
        rw [if_pos ⟨trivial, by omega⟩, if_neg, hin]
        · simp only
          rw [valA_stop (at_ := 0) (by simp only [List.length_cons] at g3; omega) hN rfl, hv, ← R_val f2 f3]
          congr 2; omega
        · rintro (h | h | h)
          · omega
          · omega
          · simp only [LaP.mk.injEq, true_and] at h; omega
end
end

section
set_option linter.all false
open Go.RowKit

theorem timeT_turn {lay lay' : List Int} {l : List Evt} {d : Int} (h : ∀ v ∈ l, (lx lay' v.item.toNat - lx lay v.item.toNat - d) % 16 = 0) (hb : beginT lay' l = beginT lay l + d) : ∀ i, i < l.length → timeT lay' l i = timeT lay l i + d
  | 0, _ => hb
  | i + 1, hi => by
    have ih := timeT_turn h hb i (by omega)
    have h1 := h _ (lx_mem hi)
    simp only [timeT, stepT, ih]
    omega
theorem pathT_turn {lay lay' : List Int} {l : List Evt} {s : Int} (h : ∀ v ∈ l, (lx lay' v.item.toNat - lx lay v.item.toNat - s) % 16 = 0) : pathT lay' l = pathT lay l := by
  unfold pathT
  rcases Nat.eq_zero_or_pos l.length with h0 | h0
  · rw [h0]; simp [timeT]
  · have h1 := h _ (lx_mem h0)
    have h2 := timeT_turn (lay := lay) (lay' := lay') (l := l) (d := beginT lay' l - beginT lay l) (fun v hv => by
      have h3 := h v hv
      unfold beginT
      omega) (by omega) (l.length - 1) (by omega)
    omega
theorem costL_turn {t : TD} (ht : t.Ok) {lay lay' : List Int} {s : Int} (h : ∀ k, k < t.os.length + t.data.toNat → (lx lay' k - lx lay k - s) % 16 = 0) : costL t lay' = costL t lay := by
  unfold costL
  have key : ∀ m, m ≤ t.ps.length → costT (fun i => (lx t.ps i).cnt) (fun i => lx (openE t) i) lay' m = costT (fun i => (lx t.ps i).cnt) (fun i => lx (openE t) i) lay m := by
    intro m
    induction m with
    | zero => intro _; rfl
    | succ m ih =>
      intro hm
      simp only [costT]
      rw [ih (by omega)]
      congr 2
      refine pathT_turn (s := s) fun v hv => ?_
      have hp := lx_mem (l := t.ps) (i := m) (by omega)
      rw [openE, lx_map (by omega)] at hv
      have hi := pathE_item ht hp v hv
      exact h _ (by have := ht.d1; omega)
  exact key _ (Nat.le_refl _)
theorem layE_mk {n : Nat} {lines : Int} {lay : List Int} (h1 : lay.length = n) (h2 : ∀ a ∈ lay, 0 ≤ a ∧ a < lines * 16) (h3 : ∀ i j, i < j → j < lay.length → lx lay i ≠ lx lay j) : layE n lines lay = 0 := by
  unfold layE
  rw [if_neg (by omega), firstBad_none]
  intro j hj
  have := h2 _ (lx_mem hj)
  rw [if_neg (by unfold outP; omega), if_neg]
  intro hm
  obtain ⟨i, hi, e⟩ := List.mem_iff_getElem.1 hm
  have hij : i < j := by simp at hi; omega
  rw [List.getElem_take] at e
  exact h3 i j hij hj (by rw [lx_eq (by omega), e])
theorem take_ne {lay : List Int} (h : ∀ i, i < lay.length → lx lay i ∉ lay.take i) {i j : Nat} (hij : i < j) (hj : j < lay.length) : lx lay i ≠ lx lay j := by
  intro e
  refine h j hj ?_
  rw [← e, lx_eq (by omega)]
  exact List.mem_iff_getElem.2 ⟨i, by simp; omega, by simp⟩
/-- an injective change of the addresses -/
theorem layE_map {n : Nat} {lines : Int} {lay : List Int} {g : Int → Int} (h : layE n lines lay = 0) (hg : ∀ a, 0 ≤ a → a < lines * 16 → 0 ≤ g a ∧ g a < lines * 16) (hi : ∀ a b, 0 ≤ a → a < lines * 16 → 0 ≤ b → b < lines * 16 → g a = g b → a = b) : layE n lines (lay.map g) = 0 := by
  obtain ⟨h1, h2, h3⟩ := layE_ok h
  refine layE_mk (by rw [List.length_map, h1]) (fun a ha => ?_) fun i j hij hj => ?_
  · obtain ⟨b, hb, rfl⟩ := List.mem_map.1 ha
    exact hg b (h2 b hb).1 (h2 b hb).2
  · rw [List.length_map] at hj
    rw [lx_map (by omega), lx_map hj]
    intro e
    have b1 := h2 _ (lx_mem (l := lay) (i := i) (by omega))
    have b2 := h2 _ (lx_mem (l := lay) (i := j) hj)
    exact take_ne h3 hij hj (hi _ _ b1.1 b1.2 b2.1 b2.2 e)
def turnA (x a : Int) : Int := a / 16 * 16 + (a + x) % 16
def swapA (p q a : Int) : Int := (if a / 16 = p then q else if a / 16 = q then p else a / 16) * 16 + a % 16
theorem turn_ok {t : TD} {lay : List Int} {x : Int} (h : costR t lay = (costL t lay, 0)) (ht : t.Ok) (hl : layL t lay = 0) : layL t (lay.map (turnA x)) = 0 ∧ costL t (lay.map (turnA x)) = costL t lay := by
  obtain ⟨h1, h2, h3⟩ := layE_ok hl
  refine ⟨layE_map hl (fun a h0 h4 => by unfold turnA; omega) (fun a b a0 a1 b0 b1 e => by unfold turnA at e; omega), costL_turn ht (s := x) fun k hk => ?_⟩
  rw [lx_map (by omega)]
  unfold turnA
  omega
theorem swap_ok {t : TD} {lay : List Int} {p q : Int} (hp : 0 ≤ p ∧ p < t.lines) (hq : 0 ≤ q ∧ q < t.lines) (ht : t.Ok) (hl : layL t lay = 0) : layL t (lay.map (swapA p q)) = 0 ∧ costL t (lay.map (swapA p q)) = costL t lay := by
  obtain ⟨h1, h2, h3⟩ := layE_ok hl
  refine ⟨layE_map hl (fun a h0 h4 => by unfold swapA; split; omega; split <;> omega) (fun a b a0 a1 b0 b1 e => by unfold swapA at e; split at e <;> split at e <;> (try split at e) <;> (try split at e) <;> omega), costL_turn ht (s := 0) fun k hk => ?_⟩
  rw [lx_map (by omega)]
  unfold swapA
  omega
end

section
set_option linter.all false
open Go.RowKit

/-- sums over paths -/
def sumP (f : PthR → Int) : List PthR → Int
  | [] => 0
  | p :: r => f p + sumP f r
theorem sumP_app (f : PthR → Int) : ∀ l m, sumP f (l ++ m) = sumP f l + sumP f m
  | [], m => by simp [sumP]
  | p :: r, m => by simp only [List.cons_append, sumP, sumP_app f r m]; omega
theorem sumP_nn {f : PthR → Int} : ∀ {l : List PthR}, (∀ p ∈ l, 0 ≤ f p) → 0 ≤ sumP f l
  | [], _ => Int.le_refl _
  | p :: r, h => by
    have h1 := h p (by simp)
    have h2 := sumP_nn (l := r) fun q hq => h q (by simp [hq])
    simp only [sumP]; omega
theorem sumP_take {f : PthR → Int} {l : List PthR} : ∀ {m : Nat}, m ≤ l.length → ∀ (g : Nat → Int), g 0 = 0 → (∀ i, i < m → g (i + 1) = g i + f (lx l i)) → g m = sumP f (l.take m)
  | 0, _, g, h0, _ => by simp [sumP, h0]
  | m + 1, hm, g, h0, hs => by
    rw [hs m (by omega), sumP_take (by omega) g h0 (fun i hi => hs i (by omega)), List.take_succ, lx_some (by omega)]
    simp only [Option.toList_some, sumP_app, sumP]
    omega
/-- what one path takes, what bounds one path -/
def costP (os : List LOrd) (lay : List Int) (p : PthR) : Int := p.cnt * pathT lay (pathE os p.os)
def bndP (os : List LOrd) (p : PthR) : Int := p.cnt * Dv (fun k => (lx (pathE os p.os) k).item) 0 ((pathE os p.os).length - 1)
theorem costL_sum (t : TD) (lay : List Int) : costL t lay = sumP (costP t.os lay) t.ps := by
  have := sumP_take (f := costP t.os lay) (l := t.ps) (m := t.ps.length) (Nat.le_refl _) (fun i => costT (fun i => (lx t.ps i).cnt) (fun i => lx (openE t) i) lay i) rfl (fun i hi => by
    simp only [costT, costP, openE]; rw [lx_map hi])
  rw [List.take_length] at this
  exact this
theorem boundN_sum (t : TD) : boundN t = sumP (bndP t.os) t.ps := by
  have := sumP_take (f := bndP t.os) (l := t.ps) (m := t.ps.length) (Nat.le_refl _) (fun i => boundTo t i) rfl (fun i hi => by
    have e : evsE t i = pathE t.os (lx t.ps i).os := by unfold evsE openE; rw [lx_map hi]
    have e2 : itE t i = fun k => (lx (pathE t.os (lx t.ps i).os) k).item := by funext k; unfold itE; rw [e]
    simp only [boundTo, bndP]
    rw [e, e2])
  rw [List.take_length] at this
  exact this
/-- one path less -/
theorem sumP_less {f : PthR → Int} {l : List PthR} (h : ∀ p ∈ l, 0 ≤ f p) {k : Nat} (hk : k < l.length) : sumP f (l.take k ++ l.drop (k + 1)) ≤ sumP f l := by
  have e : l = l.take k ++ lx l k :: l.drop (k + 1) := by
    rw [lx_eq hk, ← List.drop_eq_getElem_cons hk, List.take_append_drop]
  have h1 := h _ (lx_mem hk)
  have h2 := congrArg (sumP f) e
  rw [sumP_app] at h2 ⊢
  simp only [sumP] at h2
  omega
/-- greater Counts -/
def timesP (n : Int) (p : PthR) : PthR := { p with cnt := p.cnt * n }
theorem sumP_times {f : PthR → Int} {n : Int} : ∀ {l : List PthR}, (∀ p ∈ l, f (timesP n p) = f p * n) → sumP f (l.map (timesP n)) = sumP f l * n
  | [], _ => by simp [sumP]
  | p :: r, h => by
    simp only [List.map_cons, sumP]
    rw [h p (by simp), sumP_times fun q hq => h q (by simp [hq]), Int.add_mul]
theorem costP_times (os : List LOrd) (lay : List Int) (n : Int) (p : PthR) : costP os lay (timesP n p) = costP os lay p * n := by
  simp only [costP, timesP]; rw [Int.mul_assoc, Int.mul_comm n, ← Int.mul_assoc]
theorem bndP_times (os : List LOrd) (n : Int) (p : PthR) : bndP os (timesP n p) = bndP os p * n := by
  simp only [bndP, timesP]; rw [Int.mul_assoc, Int.mul_comm n, ← Int.mul_assoc]
theorem chkL_mk {t : TD} (h : t.Ok) : chkL t = (0, 0, 0) := by
  obtain ⟨h1, h2, h3, h4, h5, h6, h7⟩ := h
  unfold chkL
  rw [if_neg (by unfold outP; omega), if_neg (by unfold outP; omega), if_neg (by omega), firstBad_none (fun j hj => h6 _ (lx_mem hj))]
  simp only
  rw [firstBad_none (fun j hj => h7 _ (lx_mem hj))]
theorem wild_cnt {os : List LOrd} {p : List Int} {c c' : Int} (h : wildL os p c = 0) : wildL os p c' = if outP c' 1 1000 then 7 else 0 := by
  unfold wildL at h ⊢
  split at h
  · cases h
  rename_i h1
  split at h
  · cases h
  split at h
  · cases h
  rename_i h3
  split at h
  · cases h
  rename_i h4
  rw [if_neg h1, if_neg h3, if_neg h4]
/-- a task with one path less -/
theorem ok_less {t t' : TD} (h : t.Ok) {k : Nat} (hk : k < t.ps.length) (ho : t'.os = t.os) (hd : t'.data = t.data) (hl : t'.lines = t.lines) (hp : t'.ps = t.ps.take k ++ t.ps.drop (k + 1)) : t'.Ok := by
  obtain ⟨h1, h2, h3, h4, h5, h6, h7⟩ := h
  refine ⟨by rw [ho]; exact h1, by rw [hd]; exact h2, by rw [hl]; exact h3, ?_, by rw [ho, hd, hl]; exact h5, by rw [ho, hd]; exact h6, fun p hm => ?_⟩
  · rw [hp, List.length_append, List.length_take, List.length_drop]; omega
  · rw [hp] at hm
    rw [ho]
    rcases List.mem_append.1 hm with hm | hm
    · exact h7 p (List.mem_of_mem_take hm)
    · exact h7 p (List.mem_of_mem_drop hm)
/-- a task with greater Counts -/
theorem ok_more {t t' : TD} (h : t.Ok) {n : Int} (ho : t'.os = t.os) (hd : t'.data = t.data) (hl : t'.lines = t.lines) (hp : t'.ps = t.ps.map (timesP n)) : t'.Ok ∨ (chkL t').2.2 = 7 := by
  obtain ⟨h1, h2, h3, h4, h5, h6, h7⟩ := h
  have hw : ∀ i, i < t.ps.length → wildL t'.os (lx t'.ps i).os (lx t'.ps i).cnt = if outP ((lx t.ps i).cnt * n) 1 1000 then 7 else 0 := fun i hi => by
    rw [hp, lx_map hi, ho]
    exact wild_cnt (p := (lx t.ps i).os) (c := (lx t.ps i).cnt) (h7 _ (lx_mem hi))
  have hlen : t'.ps.length = t.ps.length := by rw [hp, List.length_map]
  by_cases hc : ∀ i, i < t.ps.length → ¬ outP ((lx t.ps i).cnt * n) 1 1000
  · refine .inl ⟨by rw [ho]; exact h1, by rw [hd]; exact h2, by rw [hl]; exact h3, by omega, by rw [ho, hd, hl]; exact h5, by rw [ho, hd]; exact h6, fun p hm => ?_⟩
    obtain ⟨i, hi, rfl⟩ := List.mem_iff_getElem.1 hm
    have := hw i (by omega)
    rw [if_neg (hc i (by omega)), lx_eq hi] at this
    exact this
  · refine .inr ?_
    unfold chkL
    rw [if_neg (by rw [ho]; unfold outP; omega), if_neg (by rw [hd, hl]; unfold outP; omega), if_neg (by rw [ho, hd, hl]; omega), firstBad_none (fun j hj => by rw [ho, hd]; exact h6 _ (lx_mem (by rw [ho] at hj; exact hj)))]
    simp only
    rcases firstBad_i (f := fun i => wildL t'.os (lx t'.ps i).os (lx t'.ps i).cnt) (n := t'.ps.length) with ⟨_, h8⟩ | ⟨i, h8, h9, h10⟩
    · exfalso
      refine hc fun i hi ho2 => ?_
      have := h8 i (by omega)
      rw [hw i hi, if_pos ho2] at this
      cases this
    · rw [h8]
      simp only at h10 ⊢
      rw [hw i (by omega)] at h10 ⊢
      split
      · rfl
      · rename_i h11; rw [if_neg h11] at h10; exact absurd rfl h10
end

section
set_option linter.all false
open Go.RowKit

/- the bound is no more than what a layout takes -/
theorem timeT_mod {lay : List Int} {l : List Evt} : ∀ i, (timeT lay l i - lx lay (lx l i).item.toNat) % 16 = 0
  | 0 => by simp [timeT, beginT]
  | i + 1 => by simp only [timeT, stepT]; omega
theorem timeT_step {lay : List Int} {l : List Evt} (h : ∀ v ∈ l, 0 ≤ v.wait) {i : Nat} (hi : i + 1 < l.length) : timeT lay l i + 1 ≤ timeT lay l (i + 1) := by
  have := h _ (lx_mem hi)
  simp only [timeT, stepT]; omega
theorem upI_le {n B : Int} (h : n ≤ B) (hB : B % 16 = 0) : upI n ≤ B := by unfold upI; omega
theorem DR_le {lay : List Int} {l : List Evt} {it : Nat → Int} (hit : it = fun k => (lx l k).item) (h : ∀ v ∈ l, 0 ≤ v.wait) : ∀ y, y < l.length → (∀ z, z < y → Rv it z y ≤ timeT lay l y - timeT lay l z) ∧ (∀ a, a < y → Dv it a y ≤ timeT lay l y - timeT lay l a) := by
  intro y
  induction y using Nat.strongRecOn with
  | _ y ih =>
    intro hy
    have hmono : ∀ a b, a ≤ b → b < l.length → timeT lay l a ≤ timeT lay l b := by
      intro a b hab
      induction b with
      | zero => intro _; obtain rfl : a = 0 := by omega
                exact Int.le_refl _
      | succ b ihb =>
        intro hb
        by_cases e : a = b + 1
        · rw [e]; exact Int.le_refl _
        · have h1 := ihb (by omega) (by omega)
          have h2 := timeT_step (lay := lay) h hb
          omega
    have hD : ∀ a z, a ≤ z → z < y → Dv it a z ≤ timeT lay l z - timeT lay l a := fun a z haz hz => by
      by_cases e : a = z
      · subst e; rw [Dv_out (it := it) (Nat.le_refl _)]; omega
      · exact (ih z hz (by omega)).2 a (by omega)
    have hpre : ∀ a, a < y → Dv it a (y - 1) + 1 ≤ timeT lay l y - timeT lay l a := fun a ha => by
      have h1 := hD a (y - 1) (by omega) (by omega)
      have h2 := timeT_step (lay := lay) (i := y - 1) h (by omega)
      rw [show y - 1 + 1 = y by omega] at h2
      omega
    have hR : ∀ k z, z + k + 1 = y → Rv it z y ≤ timeT lay l y - timeT lay l z := by
      intro k
      induction k using Nat.strongRecOn with
      | _ k ihk =>
        intro z hz
        rw [Rv_eq (it := it) (by omega)]
        split
        · rename_i he
          refine upI_le ?_ ?_
          · unfold innV
            refine innB_le (hpre z (by omega)) _ fun w h1 h2 => ?_
            have h3 := hD z w (by omega) (by omega)
            have h4 := ihk (y - 1 - w) (by omega) w (by omega)
            omega
          · have h1 := timeT_mod (lay := lay) (l := l) y
            have h2 := timeT_mod (lay := lay) (l := l) z
            rw [hit] at he
            dsimp only at he
            rw [he] at h2
            omega
        · have := hmono z y (by omega) hy; omega
    refine ⟨fun z hz => hR (y - 1 - z) z (by omega), fun a ha => ?_⟩
    rw [Dv_eq (it := it) ha]
    rcases maxB_at (sm := fun z => decide (it z = it y)) (f := fun z => Dv it a z + Rv it z y) (n0 := Dv it a (y - 1) + 1) (a := a) (y - a) with h1 | ⟨z, h1, h2, h3, h4⟩
    · rw [h1]; exact hpre a ha
    · rw [h4]
      have h5 := hD a z h1 (by omega)
      have h6 := hR (y - 1 - z) z (by omega)
      omega
theorem sumP_mono {f g : PthR → Int} : ∀ {l : List PthR}, (∀ p ∈ l, f p ≤ g p) → sumP f l ≤ sumP g l
  | [], _ => Int.le_refl _
  | p :: r, h => by
    have h1 := h p (by simp)
    have h2 := sumP_mono (l := r) fun q hq => h q (by simp [hq])
    simp only [sumP]; omega
theorem bound_le {t : TD} (ht : t.Ok) (lay : List Int) : boundN t ≤ costL t lay := by
  rw [boundN_sum, costL_sum]
  refine sumP_mono fun p hp => ?_
  have hc := wildL_ok (ht.w _ hp)
  unfold bndP costP
  have hw : ∀ v ∈ pathE t.os p.os, 0 ≤ v.wait := fun v hv => (pathE_item ht hp v hv).2.2.1
  have hl := pathE_len t.os p.os hc.1.2
  refine Int.mul_le_mul_of_nonneg_left ?_ (by omega)
  unfold pathT
  by_cases h0 : (pathE t.os p.os).length - 1 = 0
  · rw [h0, Dv_out (Nat.le_refl _)]
    simp [timeT]
  · exact (DR_le (lay := lay) rfl hw _ (by omega)).2 0 (by omega)
/- the least of all layouts -/
def leO (t : TD) (o : Option (List Int)) (c : Int) : Prop := ∃ l, o = some l ∧ costL t l ≤ c
theorem orL_ne {a b : Int} (h : ¬ a = 0) : orL [a, b] = a := by simp only [orL]; rw [if_pos h]
theorem betB_le {t : TD} {s l : List Int} (h : betB t s (some l) = true) : costL t s ≤ costL t l := by
  simp only [betB, decide_eq_true_eq] at h
  by_cases e : costL t s - costL t l = 0
  · omega
  · rw [orL_ne e] at h; omega
theorem betB_ge {t : TD} {s l : List Int} (h : ¬ betB t s (some l) = true) : costL t l ≤ costL t s := by
  simp only [betB, decide_eq_true_eq] at h
  by_cases e : costL t s - costL t l = 0
  · omega
  · rw [orL_ne e] at h; omega
theorem bst_mono {t : TD} {c : Int} : ∀ k s o, leO t o c → leO t (bstF t k s o) c
  | 0, s, o, ⟨l, h1, h2⟩ => by
    subst h1
    rw [bstF]
    split
    · rename_i h; have := betB_le h; exact ⟨s, rfl, by omega⟩
    · exact ⟨l, rfl, h2⟩
  | k + 1, s, o, h => by
    rw [bstF]
    generalize List.range 16 = ps
    induction ps generalizing o with
    | nil => exact h
    | cons p ps ih =>
      rw [List.foldl_cons]
      refine ih _ ?_
      split
      · exact bst_mono k _ _ h
      · exact h
theorem fold_at {α β : Type} {f : β → α → β} {Q : β → Prop} {p : α} (hm : ∀ a b, Q b → Q (f b a)) (hp : ∀ b, Q (f b p)) : ∀ (l : List α) b, p ∈ l → Q (l.foldl f b)
  | [], _, h => by simp at h
  | a :: l, b, h => by
    rw [List.foldl_cons]
    have hk : ∀ (l : List α) b, Q b → Q (l.foldl f b) := by
      intro l
      induction l with
      | nil => intro b h; exact h
      | cons a l ih => intro b h; rw [List.foldl_cons]; exact ih _ (hm a b h)
    rcases List.mem_cons.1 h with h | h
    · subst h; exact hk l _ (hp b)
    · exact fold_at hm hp l _ h
theorem bst_reach {t : TD} {l : List Int} (hc : ∀ i, 1 ≤ i → i < l.length → ∃ p, p < 16 ∧ lx l i = freeP (l.take i) t.lines p ∧ 0 ≤ lx l i) : ∀ k s o, 1 ≤ s.length → s.length + k = l.length → s = l.take s.length → leO t (bstF t k s o) (costL t l)
  | 0, s, o, h1, h2, h3 => by
    have e : s = l := by rw [h3, List.take_of_length_le (by omega)]
    rw [bstF, e]
    split
    · exact ⟨l, rfl, Int.le_refl _⟩
    · rename_i h
      cases o with
      | none => exact absurd rfl h
      | some m => exact ⟨m, rfl, betB_ge h⟩
  | k + 1, s, o, h1, h2, h3 => by
    obtain ⟨p, hp, hv, hnn⟩ := hc s.length h1 (by omega)
    rw [bstF]
    refine fold_at (Q := fun o => leO t o (costL t l)) (p := p) (fun q o' h => ?_) (fun o' => ?_) (List.range 16) o (by simpa using hp)
    · split
      · exact bst_mono k _ _ h
      · exact h
    · rw [freeL_at hp]
      rw [← h3] at hv
      rw [← hv, if_pos hnn]
      refine bst_reach hc k _ _ (by simp) (by simp; omega) ?_
      have e : l.take (s.length + 1) = s ++ [lx l s.length] := by rw [List.take_succ, ← h3, lx_some (by omega)]; rfl
      rw [List.length_append, List.length_singleton, e]
/-- what the search keeps -/
theorem freeV_not {lay : List Int} : ∀ f (p : Int), freeV lay p f < p + 16 * f → freeV lay p f ∉ lay
  | 0, p, h => by simp [freeV] at h
  | f + 1, p, h => by
    unfold freeV at h ⊢
    split
    · rename_i hm
      rw [if_pos hm] at h
      exact freeV_not f (p + 16) (by push_cast at h; omega)
    · rename_i hm; exact hm
theorem freeP_ok {lay : List Int} {lines : Int} (hl : lines ≤ 8) {p : Nat} (h : 0 ≤ freeP lay lines p) : freeP lay lines p < lines * 16 ∧ freeP lay lines p ∉ lay := by
  unfold freeP at h ⊢
  split
  · rename_i h1; rw [if_pos h1] at h; omega
  · rename_i h1; exact ⟨by omega, freeV_not 8 _ (by push_cast; omega)⟩
structure Pre (lines : Int) (s : List Int) : Prop where
  rg : ∀ a ∈ s, 0 ≤ a ∧ a < lines * 16
  nd : s.Nodup
  h0 : s ≠ [] ∧ lx s 0 = 0
theorem bst_inv {t : TD} (hl : t.lines ≤ 8) {n : Nat} : ∀ k s o, s.length + k = n → Pre t.lines s → (∀ l, o = some l → Pre t.lines l ∧ l.length = n) → ∀ l, bstF t k s o = some l → Pre t.lines l ∧ l.length = n
  | 0, s, o, hk, hs, ho, l, h => by
    rw [bstF] at h
    split at h
    · cases h; exact ⟨hs, by omega⟩
    · exact ho l h
  | k + 1, s, o, hk, hs, ho, l, h => by
    rw [bstF] at h
    have hps : ∀ p ∈ List.range 16, p < 16 := fun p hp => by simpa using hp
    generalize List.range 16 = ps at h hps
    induction ps generalizing o with
    | nil => exact ho l h
    | cons p ps ih =>
      rw [List.foldl_cons] at h
      refine ih _ ?_ h (fun q hq => hps q (by simp [hq]))
      intro m hm
      rw [freeL_at (hps p (by simp))] at hm
      split at hm
      · rename_i hv
        have hf := freeP_ok hl hv
        refine bst_inv hl k _ _ (by simp; omega) ⟨fun a ha => ?_, ?_, by simp, ?_⟩ ho m hm
        · rcases List.mem_append.1 ha with ha | ha
          · exact hs.rg a ha
          · obtain rfl : a = _ := by simpa using ha
            exact ⟨hv, hf.1⟩
        · rw [List.nodup_append]
          refine ⟨hs.nd, by simp, fun a ha b hb => ?_⟩
          obtain rfl : b = _ := by simpa using hb
          intro e; subst e; exact hf.2 ha
        · rw [lx_app_l (by cases s with | nil => exact absurd rfl hs.h0.1 | cons => simp)]; exact hs.h0.2
      · exact ho m hm
/- each layout has one like those of the search -/
def canL (g : Nat → Nat) : Nat → List Int
  | 0 => []
  | i + 1 => canL g i ++ [freeV (canL g i) (g i) 8]
def cnN (g : Nat → Nat) (p : Nat) : Nat → Nat
  | 0 => 0
  | i + 1 => cnN g p i + if g i = p then 1 else 0
theorem cnN_mono {g : Nat → Nat} {p m i : Nat} (h : m ≤ i) : cnN g p m ≤ cnN g p i := by
  induction i with
  | zero => obtain rfl : m = 0 := by omega
            exact Nat.le_refl _
  | succ i ih =>
    by_cases e : m = i + 1
    · rw [e]; exact Nat.le_refl _
    · have := ih (by omega); simp only [cnN]; omega
theorem cnN_at {g : Nat → Nat} {p j : Nat} : ∀ i, j < cnN g p i → ∃ m, m < i ∧ g m = p ∧ cnN g p m = j
  | 0, h => by simp [cnN] at h
  | i + 1, h => by
    simp only [cnN] at h
    by_cases h1 : j < cnN g p i
    · obtain ⟨m, a, b, c⟩ := cnN_at i h1; exact ⟨m, by omega, b, c⟩
    · split at h
      · rename_i e; exact ⟨i, by omega, e, by omega⟩
      · omega
theorem canL_len (g : Nat → Nat) : ∀ i, (canL g i).length = i
  | 0 => rfl
  | i + 1 => by simp [canL, canL_len g i]
theorem canL_at {g : Nat → Nat} {j : Nat} : ∀ i, j < i → lx (canL g i) j = freeV (canL g j) (g j) 8
  | 0, h => by omega
  | i + 1, h => by
    rw [canL]
    by_cases e : j = i
    · subst e; exact lx_app_e (canL_len g j).symm
    · rw [lx_app_l (by rw [canL_len]; omega)]; exact canL_at i (by omega)
theorem canL_take {g : Nat → Nat} {j : Nat} : ∀ i, j ≤ i → (canL g i).take j = canL g j
  | 0, h => by obtain rfl : j = 0 := by omega
               rfl
  | i + 1, h => by
    by_cases e : j = i + 1
    · subst e; rw [List.take_of_length_le (by rw [canL_len]; exact Nat.le_refl _)]
    · rw [canL, List.take_append_of_le_length (by rw [canL_len]; omega)]; exact canL_take i (by omega)
theorem canL_v {g : Nat → Nat} (hg : ∀ j, g j < 16) : ∀ i, (∀ j, j ≤ i → cnN g (g j) j < 8) → freeV (canL g i) (g i) 8 = g i + 16 * (cnN g (g i) i : Int) := by
  intro i
  induction i using Nat.strongRecOn with
  | _ i ih =>
    intro hc
    have hm : ∀ a, a ∈ canL g i ↔ ∃ m, m < i ∧ a = (g m : Int) + 16 * (cnN g (g m) m : Int) := fun a => by
      constructor
      · intro ha
        obtain ⟨m, h1, rfl⟩ := List.mem_iff_getElem.1 ha
        have h2 : m < i := by rw [canL_len] at h1; exact h1
        refine ⟨m, h2, ?_⟩
        rw [← lx_eq h1, canL_at i h2, ih m h2 (fun j hj => hc j (by omega))]
      · rintro ⟨m, h2, rfl⟩
        rw [← ih m h2 (fun j hj => hc j (by omega)), ← canL_at i h2]
        exact lx_mem (by rw [canL_len]; exact h2)
    refine freeV_eq (cnN g (g i) i) 8 _ (Nat.le_of_lt (hc i (Nat.le_refl _))) (fun j hj => ?_) (fun hn => ?_)
    · obtain ⟨m, h1, h2, h3⟩ := cnN_at i hj
      exact (hm _).2 ⟨m, h1, by rw [h2, h3]⟩
    · obtain ⟨m, h1, h2⟩ := (hm _).1 hn
      have h3 := hg m
      have h4 := hg i
      have e : g m = g i := by omega
      have h5 : cnN g (g i) (m + 1) ≤ cnN g (g i) i := cnN_mono (by omega)
      simp only [cnN, e, if_true] at h5
      rw [e] at h2
      omega
theorem cnN_filter (g : Nat → Nat) (p : Nat) : ∀ i, cnN g p i = ((List.range i).filter fun j => decide (g j = p)).length
  | 0 => rfl
  | i + 1 => by
    rw [List.range_succ, List.filter_append, List.length_append, ← cnN_filter g p i, cnN]
    by_cases h : g i = p <;> simp [h]
theorem cnN_bd {g : Nat → Nat} {lay : List Int} {L : Int} {i : Nat} (hi : i < lay.length) (h1 : ∀ a ∈ lay, 0 ≤ a ∧ a < L * 16) (h2 : ∀ i j, i < j → j < lay.length → lx lay i ≠ lx lay j) (h3 : ∀ j k, j ≤ i → k ≤ i → g j = g k → (lx lay j - lx lay k) % 16 = 0) : (cnN g (g i) i : Int) < L := by
  have key : (((List.range (i + 1)).filter fun j => decide (g j = g i)).map fun j => (lx lay j / 16).toNat).length ≤ (List.range L.toNat).length := by
    refine nodup_sub _ _ ?_ ?_
    · unfold List.Nodup
      rw [List.pairwise_map]
      refine List.Pairwise.imp_of_mem (R := (· < ·)) ?_ ((List.pairwise_lt_range).filter _)
      intro a b ha hb hab
      simp only [List.mem_filter, List.mem_range, decide_eq_true_eq] at ha hb
      have e := h3 a b (by omega) (by omega) (ha.2.trans hb.2.symm)
      have n := h2 a b hab (by omega)
      have ra := h1 _ (lx_mem (l := lay) (i := a) (by omega))
      have rb := h1 _ (lx_mem (l := lay) (i := b) (by omega))
      omega
    · intro x hx
      obtain ⟨a, ha, rfl⟩ := List.mem_map.1 hx
      simp only [List.mem_filter, List.mem_range, decide_eq_true_eq] at ha
      have ra := h1 _ (lx_mem (l := lay) (i := a) (by omega))
      rw [List.mem_range]
      omega
  rw [List.length_map, ← cnN_filter, List.length_range] at key
  simp only [cnN, if_true] at key
  omega
theorem best_min {t : TD} (ht : t.Ok) (hn : 0 < t.os.length + t.data.toNat) {lay : List Int} (hl : layL t lay = 0) : leO t (bestO t) (costL t lay) := by
  obtain ⟨h1, h2, h3⟩ := layE_ok hl
  have hl1 := ht.l1
  have h4 : ∀ i j, i < j → j < lay.length → lx lay i ≠ lx lay j := fun i j hij hj => take_ne h3 hij hj
  let g : Nat → Nat := fun i => ((lx lay i - lx lay 0) % 16).toNat
  have hg : ∀ j, g j < 16 := fun j => by show ((lx lay j - lx lay 0) % 16).toNat < 16; omega
  have hgv : ∀ j, (g j : Int) = (lx lay j - lx lay 0) % 16 := fun j => by show (((lx lay j - lx lay 0) % 16).toNat : Int) = _; omega
  have hcb : ∀ i, i < lay.length → (cnN g (g i) i : Int) < t.lines := fun i hi => cnN_bd hi h2 h4 fun j k _ _ e => by
    have e1 := hgv j
    have e2 := hgv k
    rw [e] at e1
    omega
  have hv : ∀ i, i < lay.length → freeV (canL g i) (g i) 8 = g i + 16 * (cnN g (g i) i : Int) := fun i hi => canL_v hg i fun j hj => by have := hcb j (by omega); omega
  have hlx : ∀ i, i < lay.length → lx (canL g lay.length) i = g i + 16 * (cnN g (g i) i : Int) := fun i hi => by rw [canL_at _ hi, hv i hi]
  have hcost : costL t (canL g lay.length) = costL t lay := costL_turn ht (s := - lx lay 0) fun k hk => by
    rw [hlx k (by omega)]
    have := hgv k
    omega
  rw [← hcost]
  have h00 : lx (canL g lay.length) 0 = 0 := by
    rw [hlx 0 (by omega)]
    have := hgv 0
    simp only [cnN]
    omega
  have hlen := canL_len g lay.length
  refine bst_reach (fun i h1i hi => ?_) _ _ _ (by simp) (by simp; omega) ?_
  · rw [hlen] at hi
    have hb := hcb i hi
    refine ⟨g i, hg i, ?_, ?_⟩
    · rw [canL_take _ (by omega), hlx i hi]
      unfold freeP
      rw [hv i hi, if_neg (by have := hg i; omega)]
    · rw [hlx i hi]; omega
  · show [0] = (canL g lay.length).take 1
    rw [List.take_succ, List.take_zero, lx_some (by omega), h00]; rfl
/-- Best: a layout, the first item at 0 -/
theorem best_lay {t : TD} (ht : t.Ok) (hn : 0 < t.os.length + t.data.toNat) {l : List Int} (h : bestO t = some l) : layL t l = 0 ∧ lx l 0 = 0 ∧ l.length = t.os.length + t.data.toNat := by
  have hl1 := ht.l1
  obtain ⟨h1, h2⟩ := bst_inv (t := t) (by omega) (n := t.os.length + t.data.toNat) _ [0] none (by simp; omega) ⟨fun a ha => by
    obtain rfl : a = 0 := by simpa using ha
    omega, by simp, by simp [lx]⟩ (fun l h => by cases h) l h
  refine ⟨layE_mk h2 h1.rg fun i j hij hj => ?_, h1.h0.2, h2⟩
  rw [lx_eq (by omega), lx_eq hj]
  intro e
  have := (List.getElem_inj h1.nd).1 e
  omega
end

section
set_option linter.all false
open Go.RowKit

theorem evs_len {t : TD} (ht : t.Ok) {i : Nat} (hi : i < t.ps.length) : 1 ≤ (evsE t i).length ∧ (evsE t i).length ≤ 93 := by
  unfold evsE openE
  rw [lx_map hi]
  have hc := wildL_ok (ht.w _ (lx_mem hi))
  have := pathE_len t.os (lx t.ps i).os hc.1.2
  omega
/-- the pairs come out in order -/
theorem pairs_srt {t : TD} (ht : t.Ok) : ∀ n, n ≤ t.ps.length → SrtP (pairsTo t n)
  | 0, _ => by simp [pairsTo, SrtP]
  | n + 1, h => by
    have ih := pairs_srt ht n (by omega)
    have hb := (pairsTo_ok (t := t) n (fun i hi => evs_len ht (by omega))).2
    have h1 : SrtP (pathPr t n) := prs_srt (it := itE t n) (path := (n : Int)) _ true 0 ((evsE t n).length - 1) (Nat.zero_le _) (fun h => by cases h)
    have h2 := (pathPr_ok (evs_len ht (show n < t.ps.length by omega))).2
    unfold SrtP at ih h1 ⊢
    rw [pairsTo, List.pairwise_append]
    refine ⟨ih, h1, fun p hp q hq => ?_⟩
    have a1 := hb p hp
    have a2 := h2 q hq
    rw [ltP_false]; omega
theorem bound_pairs {t : TD} (ht : t.Ok) : boundL t = pairsTo t t.ps.length := by
  unfold boundL
  exact (srtP_eq (List.Perm.refl _) (pairs_srt ht _ (Nat.le_refl _))).symm
theorem srtP_id {l : List LaP} (h : SrtP l) : srtP l = l := (srtP_eq (List.Perm.refl _) h).symm
theorem bound_judge {t : TD} (ht : t.Ok) : judgeL t (boundL t) = 0 := by
  rw [bound_pairs ht]
  have key : ∀ n, n ≤ t.ps.length → ∀ p ∈ pairsTo t n, judgeP t p = 0 := by
    intro n
    induction n with
    | zero => intro _ p hp; simp [pairsTo] at hp
    | succ n ih =>
      intro hn p hp
      rcases List.mem_append.1 hp with hp | hp
      · exact ih (by omega) p hp
      · have h2 := (pathPr_ok (evs_len ht (show n < t.ps.length by omega))).2 p hp
        obtain ⟨q, hq, e⟩ := List.mem_map.1 hp
        have h3 := prs_ok (it := itE t n) _ true 0 ((evsE t n).length - 1) (Nat.zero_le _) (fun h => by cases h) q hq
        have e1 : p.path.toNat = n := by omega
        have e2 : p.fr.toNat = q.1 := by rw [← e]; simp
        have e3 : p.tt.toNat = q.2 := by rw [← e]; simp
        unfold judgeP
        rw [e1, e2, e3, if_neg (by unfold outP; omega), if_neg (by unfold outP; omega), if_neg]
        intro h
        rcases h with h | h
        · omega
        · exact h h3.2.2.2
  unfold judgeL
  rw [firstBad_none (fun i hi => key _ (Nat.le_refl _) _ (lx_mem hi))]
theorem pairs_pre {t : TD} (ht : t.Ok) {i : Nat} : ∀ n, n ≤ t.ps.length → i ≤ n → ∃ R, pairsTo t n = pairsTo t i ++ R ∧ ∀ p ∈ R, (i : Int) ≤ p.path
  | 0, _, h => by
    obtain rfl : i = 0 := by omega
    exact ⟨[], by simp, by simp⟩
  | n + 1, hn, h => by
    by_cases e : i = n + 1
    · subst e; exact ⟨[], by simp, by simp⟩
    · obtain ⟨R, h1, h2⟩ := pairs_pre ht n (by omega) (by omega : i ≤ n)
      refine ⟨R ++ pathPr t n, by rw [pairsTo, h1, List.append_assoc], fun p hp => ?_⟩
      rcases List.mem_append.1 hp with hp | hp
      · exact h2 p hp
      · have := ((pathPr_ok (evs_len ht (show n < t.ps.length by omega))).2 p hp).1; omega
theorem acc_bound {t : TD} (ht : t.Ok) : ∀ i, i ≤ t.ps.length → ∃ R, pairsTo t t.ps.length = pairsTo t i ++ R ∧ accTo t (pairsTo t t.ps.length) i = some (boundTo t i, R)
  | 0, _ => ⟨pairsTo t t.ps.length, rfl, rfl⟩
  | i + 1, hi => by
    obtain ⟨R0, h1, h2⟩ := acc_bound ht i (by omega)
    obtain ⟨R, h3, h4⟩ := pairs_pre ht (i := i + 1) t.ps.length (Nat.le_refl _) hi
    refine ⟨R, h3, ?_⟩
    have hR0 : R0 = pathPr t i ++ R := by
      rw [h1, pairsTo, List.append_assoc] at h3
      exact List.append_cancel_left h3
    have hNx : ∀ y : Nat, Nx (i : Int) y R := fun y p r hr hp => by
      have := h4 p (by rw [hr]; simp)
      omega
    have hm := evs_len ht (show i < t.ps.length by omega)
    have hlen : R0.length < (pairsTo t t.ps.length).length + 1 := by rw [h1, List.length_append]; omega
    rw [accTo, h2]
    simp only
    generalize hK : (pairsTo t t.ps.length).length + 1 = K at hlen ⊢
    have hlast : (((evsE t i).length : Int) - 1) = (((evsE t i).length - 1 : Nat) : Int) := by omega
    have hpr : pathPr t i = toP i (prs (itE t i) (2 * (evsE t i).length) true 0 ((evsE t i).length - 1)) := rfl
    have hok := prs_ok (it := itE t i) (2 * (evsE t i).length) true 0 ((evsE t i).length - 1) (Nat.zero_le _) (fun h => by cases h)
    have hsrt := prs_srt (it := itE t i) (path := (i : Int)) (2 * (evsE t i).length) true 0 ((evsE t i).length - 1) (Nat.zero_le _) (fun h => by cases h)
    have hval := (prs_val (it := itE t i) (path := (i : Int)) (2 * (evsE t i).length)).1 0 ((evsE t i).length - 1) (Nat.zero_le _) (by simp only [prD, if_true]; omega)
    by_cases hw : wholeB t i R0 = true
    · -- the whole path is one pair
      have hw2 := hw
      have hwi : ∀ n, (if wholeB t i R0 = true then upI n else n) = upI n := fun n => if_pos hw
      simp only [hwi]
      clear hwi
      simp only [wholeB, decide_eq_true_eq] at hw2
      have hrest : restL t i R0 = R0.tail := by rw [restL, if_pos hw]
      rw [hrest]
      rw [hlast] at hw2 ⊢
      generalize (evsE t i).length - 1 = y at *
      obtain ⟨k, hk⟩ : ∃ k, 2 * (evsE t i).length = k + 1 := ⟨2 * (evsE t i).length - 1, by omega⟩
      rw [hk] at hpr hok
      have hkey : y ≠ 0 ∧ pathPr t i = ⟨i, 0, y⟩ :: toP i (prs (itE t i) k false 0 y) ∧ itE t i 0 = itE t i y ∧ Dv (itE t i) 0 y = Rv (itE t i) 0 y := by
        have hhead : ∀ q l, prs (itE t i) (k + 1) true 0 y = q :: l → q.1 = 0 ∧ q.2 = y := fun q l hq => by
          rw [hR0, hpr, hq, toP_cons] at hw2
          have := hw2.2
          simp only [List.cons_append, lx, List.getD_cons_zero, LaP.mk.injEq] at this
          omega
        have hne : prs (itE t i) (k + 1) true 0 y ≠ [] := fun h0 => by
          rw [hR0, hpr, h0] at hw2
          cases hRR : R with
          | nil => rw [hRR] at hw2; exact hw2.1 rfl
          | cons p r =>
            rw [hRR] at hw2
            have e := hw2.2
            simp only [toP, List.map_nil, List.nil_append, lx, List.getD_cons_zero] at e
            have := h4 p (by rw [hRR]; simp)
            rw [e] at this
            simp only at this
            omega
        have hy0 : y ≠ 0 := fun h0 => hne (by rw [prs, if_pos h0.symm])
        simp only [prs] at hhead hne
        rw [hpr]
        simp only [prs]
        rw [if_neg (fun h => hy0 h.symm)] at hhead hne ⊢
        by_cases e2 : Dv (itE t i) 0 y = Dv (itE t i) 0 (y - 1) + 1
        · rw [if_pos e2] at hhead hne
          exfalso
          cases hq : prs (itE t i) k true 0 (y - 1) with
          | nil => exact hne hq
          | cons q l =>
            have g1 := hhead q l hq
            have g2 := prs_ok (it := itE t i) k true 0 (y - 1) (Nat.zero_le _) (fun h => by cases h) q (by rw [hq]; simp)
            omega
        · rw [if_neg e2] at hhead ⊢
          obtain ⟨f1, f2, f3, _⟩ := fstZ_ok (it := itE t i) (a := 0) (y := y) (by omega) e2
          have hit : itE t i (fstZ (itE t i) 0 y) = itE t i y ∧ Dv (itE t i) 0 (fstZ (itE t i) 0 y) + Rv (itE t i) (fstZ (itE t i) 0 y) y = Dv (itE t i) 0 y := by simpa [atZ] using f3
          generalize fstZ (itE t i) 0 y = z at *
          cases hq : prs (itE t i) k true 0 z with
          | cons q l =>
            exfalso
            rw [hq] at hhead
            have g1 := hhead q _ rfl
            have g2 := prs_ok (it := itE t i) k true 0 z (Nat.zero_le _) (fun h => by cases h) q (by rw [hq]; simp)
            omega
          | nil =>
            rw [hq] at hhead
            have g1 := hhead _ _ rfl
            have hz : z = 0 := g1.1
            subst hz
            refine ⟨hy0, rfl, hit.1, ?_⟩
            have := hit.2
            rw [Dv_out (Nat.le_refl _)] at this
            omega
      obtain ⟨k1, k2, k3, k4⟩ := hkey
      rw [hR0, k2, List.cons_append, List.tail_cons]
      have hin := (prs_val (it := itE t i) (path := (i : Int)) k).2 0 y (by omega) k3 (by simp only [prD]; simp; omega) K R (hNx y) (by rw [hR0, k2, List.cons_append, List.length_cons] at hlen; omega)
      rw [show ((0 : Nat) : Int) = 0 from rfl] at hin
      rw [hin]
      simp only
      rw [boundTo, ← R_val (by omega) k3, ← k4, show (evsE t i).length - 1 = y by omega]
    · -- not
      have hrest : restL t i R0 = R0 := by rw [restL, if_neg hw]
      have hwi : ∀ n, (if wholeB t i R0 = true then upI n else n) = n := fun n => if_neg hw
      simp only [hwi]
      clear hwi
      rw [hrest, hlast]
      rw [hR0, hpr] at hlen ⊢
      have hne : ∀ q ∈ prs (itE t i) (2 * (evsE t i).length) true 0 ((evsE t i).length - 1), ¬ (q.1 = 0 ∧ q.2 = (evsE t i).length - 1) := fun q hq h => hw (by
        simp only [wholeB, decide_eq_true_eq]
        rw [hR0, hpr]
        cases hl : prs (itE t i) (2 * (evsE t i).length) true 0 ((evsE t i).length - 1) with
        | nil => rw [hl] at hq; simp at hq
        | cons r l =>
          rw [hl] at hq hsrt
          have hr := hok r (by rw [hl]; simp)
          rw [toP_cons, List.cons_append]
          refine ⟨by simp, ?_⟩
          simp only [lx, List.getD_cons_zero, LaP.mk.injEq, true_and]
          rcases List.mem_cons.1 hq with e | hq
          · subst e; omega
          · unfold SrtP at hsrt
            rw [toP_cons, List.pairwise_cons] at hsrt
            have := hsrt.1 ⟨i, q.1, q.2⟩ (List.mem_map.2 ⟨q, hq, rfl⟩)
            rw [ltP_false] at this
            have hq2 := hok q (by rw [hl]; simp [hq])
            dsimp only at this
            omega)
      obtain ⟨K', at', n', g1, g2, g3, g4, g5⟩ := hval K 0 ((evsE t i).length - 1) 0 0 R (Nat.le_refl _) (Nat.le_refl _) hne (hNx _) hlen
      rw [show ((0 : Nat) : Int) = 0 from rfl] at g5
      rw [g5, valA_stop (at_ := 0) (y := (evsE t i).length - 1) (by omega) (hNx _) rfl]
      simp only
      rw [boundTo]
      congr 4
      simp only [Int.ofNat_zero] at g4
      omega
/-- Accept accepts the proof of the task -/
theorem acc_own {t : TD} (ht : t.Ok) : accR t (boundL t) = (boundN t, 0) := by
  obtain ⟨R, h1, h2⟩ := acc_bound ht t.ps.length (Nat.le_refl _)
  have hlen := (pairsTo_ok (t := t) t.ps.length (fun i hi => evs_len ht hi)).1
  have hp := ht.p1
  unfold accR
  rw [if_neg (by rw [chkL_mk ht]; simp), if_neg (by rw [bound_pairs ht]; omega), if_neg (by rw [bound_judge ht]; simp), bound_pairs ht, srtP_id (pairs_srt ht _ (Nat.le_refl _)), h2]
  rfl
/-- no proof that is accepted is worth more -/
theorem acc_le {t : TD} (ht : t.Ok) {l : List LaP} (hj : ∀ p ∈ l, judgeP t p = 0) : ∀ i b l', i ≤ t.ps.length → accTo t l i = some (b, l') → l' <:+ l ∧ 0 ≤ b ∧ b ≤ boundTo t i
  | 0, b, l', _, h => by
    simp only [accTo, Option.some.injEq, Prod.mk.injEq] at h
    obtain ⟨rfl, rfl⟩ := h
    exact ⟨List.suffix_refl _, Int.le_refl _, Int.le_refl _⟩
  | i + 1, b, l', hi, h => by
    rw [accTo] at h
    cases ha : accTo t l i with
    | none => rw [ha] at h; cases h
    | some q =>
      obtain ⟨b0, l0⟩ := q
      rw [ha] at h
      simp only at h
      obtain ⟨s0, hn0, hb0⟩ := acc_le ht hj i b0 l0 (by omega) ha
      have hm := evs_len ht (show i < t.ps.length by omega)
      have hcnt := (wildL_ok (ht.w _ (lx_mem (l := t.ps) (i := i) (by omega)))).2.1
      have hJ : ∀ m : List LaP, m <:+ l → Jd (itE t i) i m := fun m hs p hp e => by
        have := judgeP_ok (hj p (hs.subset hp))
        rw [e] at this
        simp only [Int.toNat_natCast] at this
        exact ⟨this.2.1, this.2.2.1, this.2.2.2.2⟩
      have hPr : PrOk l := fun p hp => by
        have := judgeP_ok (hj p hp)
        have := evs_len ht (show p.path.toNat < t.ps.length by omega)
        omega
      have sr : restL t i l0 <:+ l := by
        unfold restL
        split
        · exact (List.tail_suffix _).trans s0
        · exact s0
      cases hv : valA (l.length + 1) i 0 (((evsE t i).length : Int) - 1) (restL t i l0) 0 0 with
      | none => rw [hv] at h; cases h
      | some q =>
        obtain ⟨n, l2⟩ := q
        rw [hv] at h
        simp only [Option.some.injEq, Prod.mk.injEq] at h
        obtain ⟨rfl, rfl⟩ := h
        have hlast : (((evsE t i).length : Int) - 1) = (((evsE t i).length - 1 : Nat) : Int) := by omega
        have hw : wholeB t i l0 = true → 0 < (evsE t i).length - 1 ∧ itE t i 0 = itE t i ((evsE t i).length - 1) := fun hw => by
          simp only [wholeB, decide_eq_true_eq] at hw
          have h0 : 0 < l0.length := by rcases l0 with _ | ⟨x, y⟩; exact absurd rfl hw.1; simp
          have hp := lx_mem h0
          have g := judgeP_ok (hj _ (s0.subset hp))
          rw [hw.2] at g
          simp only [Int.toNat_natCast] at g
          refine ⟨by omega, ?_⟩
          have := g.2.2.2.2
          rw [hlast] at this
          simpa using this
        have hn : l2 <:+ restL t i l0 ∧ (if wholeB t i l0 = true then upI n else n) ≤ Dv (itE t i) 0 ((evsE t i).length - 1) := by
          rw [hlast] at hv
          by_cases h0 : (evsE t i).length - 1 = 0
          · -- one event
            have hnw : ¬ wholeB t i l0 = true := fun h => by have := (hw h).1; omega
            rw [if_neg hnw]
            rw [h0] at hv ⊢
            rw [Dv_out (Nat.le_refl _)]
            have hJ0 := hJ _ sr
            cases hr : restL t i l0 with
            | nil =>
              rw [hr] at hv
              simp only [valA, Option.some.injEq, Prod.mk.injEq] at hv
              obtain ⟨rfl, rfl⟩ := hv
              exact ⟨List.suffix_refl _, by simp⟩
            | cons p r =>
              rw [hr] at hv hJ0
              simp only [valA] at hv
              rw [if_neg (fun h => by have := hJ0 p (by simp) h.1; simp at h; omega)] at hv
              simp only [Option.some.injEq, Prod.mk.injEq] at hv
              obtain ⟨rfl, rfl⟩ := hv
              exact ⟨List.suffix_refl _, by simp⟩
          · obtain ⟨s1, b1⟩ := valA_le (it := itE t i) (path := (i : Int)) _ 0 ((evsE t i).length - 1) _ 0 0 n l2 (hJ _ sr) (by omega) (Nat.le_refl _) (Nat.zero_le _) hv
            rw [if_pos rfl] at b1
            refine ⟨s1, ?_⟩
            split
            · rename_i hwh
              obtain ⟨_, hit⟩ := hw hwh
              have h5 := D_cand (it := itE t i) (a := 0) (z := 0) (y := (evsE t i).length - 1) (Nat.le_refl _) (by omega) hit
              rw [Dv_out (Nat.le_refl 0), R_val (by omega) hit] at h5
              have := upI_mono (show n ≤ (innV (itE t i) 0 ((evsE t i).length - 1)).1 by omega)
              omega
            · have := I_le (it := itE t i) (z := 0) (y := (evsE t i).length - 1) (by omega)
              omega
        have hnn : 0 ≤ (if wholeB t i l0 = true then upI n else n) := by
          have h9 := (valA_ok _ _ _ _ _ _ _ _ _ (fun p hp => hPr p (sr.subset hp)) (by omega) hv).2.1
          have h8 := upI_ge n
          split <;> omega
        refine ⟨(hn.1.trans sr), ?_, ?_⟩
        · have := Int.mul_nonneg (show 0 ≤ (lx t.ps i).cnt by omega) hnn
          omega
        · rw [boundTo]
          have := Int.mul_le_mul_of_nonneg_left hn.2 (show 0 ≤ (lx t.ps i).cnt by omega)
          omega
theorem acc_all {t : TD} (ht : t.Ok) {l : List LaP} (h : (accR t l).2 = 0) : 0 ≤ (accR t l).1 ∧ (accR t l).1 ≤ boundN t := by
  unfold accR at h ⊢
  rw [if_neg (by rw [chkL_mk ht]; simp)] at h ⊢
  split at h
  · cases h
  rename_i h1
  rw [if_neg h1]
  split at h
  · rename_i h2; exact absurd h h2
  rename_i h2
  rw [if_neg h2]
  have hj := judge_ok (Classical.byContradiction h2)
  have hjs : ∀ p ∈ srtP l, judgeP t p = 0 := fun p hp => hj p (srtP_mem.1 hp)
  cases ha : accTo t (srtP l) t.ps.length with
  | none => rw [ha] at h; cases h
  | some q =>
    obtain ⟨b, l'⟩ := q
    exact (acc_le ht hjs _ b l' (Nat.le_refl _) ha).2
end

section
set_option linter.all false
open Go.RowKit

theorem perm_out {l o : List Int} {k : Nat} (hk : k < l.length) : (cutL l k ++ (o ++ [lx l k])).Perm (l ++ o) := by
  unfold cutL
  have e : l = l.take k ++ lx l k :: l.drop (k + 1) := by
    rw [lx_eq hk, ← List.drop_eq_getElem_cons hk, List.take_append_drop]
  have h1 : (l ++ o).Perm ((lx l k :: (l.take k ++ l.drop (k + 1))) ++ o) := by
    have := (List.perm_middle (a := lx l k) (l₁ := l.take k) (l₂ := l.drop (k + 1))).append_right o
    rwa [← e] at this
  refine List.Perm.trans ?_ h1.symm
  rw [← List.append_assoc]
  exact List.perm_append_comm
theorem any_ok {m : Nat} {x : List Int} : ∀ i, i ≤ m → (lefT m x i ++ outT m x i).Perm (natsI m)
  | 0, _ => by show (natsI m ++ []).Perm (natsI m); simp
  | i + 1, h => by
    have h1 := any_ok (m := m) (x := x) i (by omega)
    have h2 := anyT_len (m := m) (x := x) i (by omega)
    have hk := anyK_lt (x := x) (i := i) (m := (lefT m x i).length) (by omega)
    rw [← lefT_succ rfl, ← outT_succ rfl]
    exact (perm_out hk).trans h1
theorem any_lay {t : TD} (ht : t.Ok) (x : List Int) : layL t (anyL t x) = 0 := by
  have hl1 := ht.l1
  have hd := ht.d1
  have hf := ht.it
  have hn := ht.n1
  have h1 := any_ok (m := (t.lines * 16).toNat) (x := x) (t.os.length + t.data.toNat) (by omega)
  have h2 := anyT_len (m := (t.lines * 16).toNat) (x := x) (t.os.length + t.data.toNat) (by omega)
  have hnd := (h1.nodup_iff).2 (natsI_nodup _)
  rw [List.nodup_append] at hnd
  refine layE_mk h2.2 (fun a ha => ?_) fun i j hij hj => ?_
  · have := h1.mem_iff.1 (List.mem_append.2 (.inr ha))
    have := natsI_mem.1 this
    omega
  · have hj' : j < (outT (t.lines * 16).toNat x (t.os.length + t.data.toNat)).length := hj
    unfold anyL
    rw [lx_eq (by omega), lx_eq hj']
    intro e
    have := (List.getElem_inj hnd.2.1).1 e
    omega
end

section
set_option linter.all false
set_option pp.maxSteps 100000
set_option maxRecDepth 100000
set_option maxHeartbeats 4000000
open Go.RowKit

theorem costR_cases (t : TD) (lay : List Int) : (∃ e, ¬ e = 0 ∧ costR t lay = (0, e)) ∨ ((chkL t).2.2 = 0 ∧ layL t lay = 0 ∧ costR t lay = (costL t lay, 0)) := by
  unfold costR
  split
  · rename_i h; exact .inl ⟨_, h, rfl⟩
  · rename_i h1
    split
    · rename_i h; exact .inl ⟨_, h, rfl⟩
    · rename_i h2; exact .inr ⟨by simpa using h1, by simpa using h2, rfl⟩
theorem costL_nn {t : TD} (ht : t.Ok) (lay : List Int) : 0 ≤ costL t lay ∧ costL t lay ≤ 24000000 := by
  have hc := fun i (hi : i < t.ps.length) => (wildL_ok (ht.w _ (lx_mem (l := t.ps) (i := i) hi)))
  have := costT_bd (cnt := fun i => (lx t.ps i).cnt) (es := fun i => lx (openE t) i) (lay := lay) (m := t.ps.length) (fun i hi => (hc i hi).2.1) (fun i hi => by
    rw [openE, lx_map hi]
    exact pathT_bd (fun v hv => (pathE_item ht (lx_mem hi) v hv).2.2) (by have := pathE_len t.os (lx t.ps i).os (hc i hi).1.2; omega)) t.ps.length (Nat.le_refl _)
  have := ht.p1
  unfold costL
  omega
theorem cost_at (t : TD) (lay : List Int) (al : Option Addr) (cl : Nat) (w : World) (hn : t.Len) (hT : t.At w) (hl : Rd icell 1 w al lay) (hll : lay.length ≤ 9223372036854775807 ∧ lay.length ≤ cl) {n : Int} (hr : costR t lay = (n, 0)) :
    Calls Tryz.prog 13 #[.agg #[.slice t.ao t.os.length t.co, .int .i64 t.data, .int .i64 t.lines, .slice t.ap t.ps.length t.cp], .slice al lay.length cl] w (fun e w' => e = .returned (.tuple #[.int .i64 n, .int .i64 0]) ∧ Below w.heap.size w w') := by
  have := Cost_v t lay al cl w hn hT hl hll
  rw [hr] at this
  exact this
end

section
set_option linter.all false
open Go.RowKit

theorem LayG.lay {t : TD} {lay : List Int} (h : LayG (t.os.length + t.data.toNat) t.lines lay) : layL t lay = 0 :=
  layE_mk h.len h.rg fun i j hij hj => h.ds i j hij (by rw [← h.len]; exact hj)
theorem best_res {t : TD} (he : bestEr t = 0) : layL t (bestL t) = 0 ∧ lx (bestL t) 0 = 0 ∧ (bestL t).length = t.os.length + t.data.toNat ∧ 0 < (bestL t).length ∧ ∀ lay, layL t lay = 0 → costL t (bestL t) ≤ costL t lay := by
  obtain ⟨ht, _⟩ := bestEr_ok he
  have hn := ht.n1
  have hp : 0 < t.os.length + t.data.toNat := by omega
  obtain ⟨l, h1, _⟩ := best_min ht hp (laid_good ht).lay
  have hL : bestL t = l := by rw [bestL, h1]; rfl
  obtain ⟨g1, g2, g3⟩ := best_lay ht hp h1
  rw [hL]
  refine ⟨g1, g2, g3, by omega, fun lay hl => ?_⟩
  obtain ⟨l', h3, h4⟩ := best_min ht hp hl
  rw [h1] at h3
  cases h3
  exact h4
theorem cost_ok {t : TD} (ht : t.Ok) {lay : List Int} (hl : layL t lay = 0) : costR t lay = (costL t lay, 0) := by
  unfold costR
  rw [chkL_mk ht, if_neg (by simp), if_neg (by rw [hl]; simp)]
theorem goodF_lay {t : TD} {n : Nat} : ∀ k lay, LayG n t.lines lay → LayG n t.lines (goodF t k lay)
  | 0, lay, h => h
  | k + 1, lay, h => by
    rw [goodF]
    split
    · exact h
    · rename_i hne
      have hs := good_step h hne
      exact goodF_lay k _ (h.exch (by have := hs.2.1; have := hs.2.2.1; omega) hs.2.2.1)
theorem goodF_min {t : TD} (ht : t.Ok) {n : Nat} : ∀ (k : Nat) (lay : List Int), LayG n t.lines lay → costL t lay < (k : Int) → leastK (exC t (goodF t k lay) (rowsTo (goodF t k lay).length (goodF t k lay).length)) (exC t (goodF t k lay) (rowsTo (goodF t k lay).length (goodF t k lay).length)).length = 0
  | 0, lay, h, hk => by have := (costL_nn ht lay).1; omega
  | k + 1, lay, h, hk => by
    rw [goodF]
    split
    · rename_i h0; exact h0
    · rename_i hne
      have hs := good_step h hne
      exact goodF_min ht k _ (h.exch (by have := hs.2.1; have := hs.2.2.1; omega) hs.2.2.1) (by have := hs.2.2.2.2; push_cast at hk; omega)
theorem exch_self {lay : List Int} {i : Nat} (hi : i < lay.length) : exch lay i i = lay := by
  refine lx_ext (exch_len _ _ _) fun j _ => ?_
  rw [exch_lx hi hi]; split
  · rename_i e; rw [e]
  · rfl
theorem exch_comm {lay : List Int} {i k : Nat} (hi : i < lay.length) (hk : k < lay.length) : exch lay i k = exch lay k i := by
  refine lx_ext (by rw [exch_len, exch_len]) fun j _ => ?_
  rw [exch_lx hi hk, exch_lx hk hi]
  split
  · rename_i e; subst e; split
    · rename_i e2; subst e2; rfl
    · rfl
  · rfl
theorem good_res {t : TD} (ht : t.Ok) : layL t (goodL t) = 0 ∧ (goodL t).length = t.os.length + t.data.toNat ∧ ∀ i k, i < (goodL t).length → k < (goodL t).length → layL t (exch (goodL t) i k) = 0 ∧ costL t (goodL t) ≤ costL t (exch (goodL t) i k) := by
  have h0 := laid_good ht
  have hG : LayG (t.os.length + t.data.toNat) t.lines (goodL t) := goodF_lay _ _ h0
  refine ⟨hG.lay, hG.len, fun i k hi hk => ⟨(hG.exch (by have := hG.len; omega) (by have := hG.len; omega)).lay, ?_⟩⟩
  have hm : leastK (exC t (goodL t) (rowsTo (goodL t).length (goodL t).length)) (exC t (goodL t) (rowsTo (goodL t).length (goodL t).length)).length = 0 :=
    goodF_min ht ((costL t (laidL t)).toNat + 1) (laidL t) h0 (by have := (costL_nn ht (laidL t)).1; omega)
  have hlt : ∀ a b, a < b → b < (goodL t).length → costL t (goodL t) ≤ costL t (exch (goodL t) a b) := fun a b hab hb => by
    have h2 : (a, b) ∈ rowsTo (goodL t).length (goodL t).length := rowsTo_mem.2 ⟨by dsimp only; omega, hab, hb⟩
    obtain ⟨j, hj, e⟩ := List.mem_iff_getElem.1 h2
    have h3 := (leastK_min (exC t (goodL t) (rowsTo (goodL t).length (goodL t).length)) (exC t (goodL t) (rowsTo (goodL t).length (goodL t).length)).length).1 (j + 1) (by rw [exC_len]; omega)
    rw [hm, exC_at hj, lx_eq hj, e] at h3
    exact h3
  rcases Nat.lt_trichotomy i k with h | h | h
  · exact hlt i k h hk
  · subst h; rw [exch_self hi]; exact Int.le_refl _
  · rw [exch_comm hi hk]; exact hlt k i h hi
/- a line more -/
def TD.moreL (t : TD) : TD := ⟨t.os, t.data, t.lines + 1, t.ps, t.ao, t.co, t.ap, t.cp⟩
theorem TD.moreL_ok {t : TD} (h : t.Ok) (h8 : ¬ t.lines = 8) : t.moreL.Ok := by
  obtain ⟨h1, h2, h3, h4, h5, h6, h7⟩ := h
  exact ⟨h1, h2, by show 1 ≤ t.lines + 1 ∧ t.lines + 1 ≤ 8; omega, h4, by show (t.os.length : Int) + t.data ≤ (t.lines + 1) * 16; omega, h6, h7⟩
theorem lines_res {t : TD} (he : bestEr t = 0) (h8 : ¬ t.lines = 8) : bestEr t.moreL = 0 ∧ costR t (bestL t) = (costL t (bestL t), 0) ∧ costR t.moreL (bestL t.moreL) = (costL t.moreL (bestL t.moreL), 0) ∧ costL t.moreL (bestL t.moreL) ≤ costL t (bestL t) := by
  obtain ⟨ht, hf, _⟩ := bestEr_ok he
  have hm := TD.moreL_ok ht h8
  have he2 : bestEr t.moreL = 0 := by
    unfold bestEr
    rw [chkL_mk hm, if_neg (by simp), if_neg (by show ¬ 4 < (t.os.length : Int) + t.data; omega)]
  obtain ⟨a1, a2, a3, a4, a5⟩ := best_res he
  obtain ⟨b1, b2, b3, b4, b5⟩ := best_res he2
  refine ⟨he2, cost_ok ht a1, cost_ok hm b1, ?_⟩
  have hl : layL t.moreL (bestL t) = 0 := by
    obtain ⟨g1, g2, g3⟩ := layE_ok a1
    exact layE_mk g1 (fun a ha => by have := g2 a ha; show 0 ≤ a ∧ a < (t.lines + 1) * 16; omega) fun i j hij hj => take_ne g3 hij hj
  exact b5 _ hl
end

section
set_option linter.all false
set_option pp.maxSteps 100000
set_option maxRecDepth 100000
set_option maxHeartbeats 4000000
open Go.RowKit

theorem good_at (t : TD) (w : World) (hn : t.Len) (hT : t.At w) (ht : t.Ok) :
    Calls Tryz.prog 21 #[.agg #[.slice t.ao t.os.length t.co, .int .i64 t.data, .int .i64 t.lines, .slice t.ap t.ps.length t.cp]] w (Ret (fun g : Nat => .tuple #[.slice (some ⟨g, 0, none⟩) (goodL t).length (goodL t).length, .int .i64 0]) (fun g => [.cells g (ic (goodL t))]) w) := by
  rw [(good_res ht).2.1]
  exact Good_ok t 0 0 w hn hT (chkL_mk ht)
theorem any_at (t : TD) (x : List Int) (ax : Option Addr) (cx : Nat) (w : World) (hn : t.Len) (ht : t.Ok) (hx : Rd ucell 1 w ax x) (hxl : x.length ≤ 9223372036854775807) (hxb : ∀ a ∈ x, 0 ≤ a ∧ a ≤ 255) :
    Calls Tryz.prog 29 #[.agg #[.slice t.ao t.os.length t.co, .int .i64 t.data, .int .i64 t.lines, .slice t.ap t.ps.length t.cp], .slice ax x.length cx] w (Ret (fun q : Option Addr × Nat => .slice q.1 (anyL t x).length q.2) (fun q => [.own icell 1 3 (.slice q.1 (anyL t x).length q.2) (anyL t x)]) w) :=
  Any_v t x ax cx w hn ht.n1 ht.d1 ht.l1 ht.it hx hxl hxb
/-- a call of Any, then Cost: its value, where Any's answer is one of the results of a drawn region -/
theorem any_cost {w0 w' : World} (t : TD) (x : List Int) (v : Value) (H : List En) (hn : t.Len) (hT : t.At w0) (ht : t.Ok) (hm : Mem w0 [] (.rt (fun q : Option Addr × Nat => .slice q.1 (anyL t x).length q.2) (fun q => [.own icell 1 3 (.slice q.1 (anyL t x).length q.2) (anyL t x)]) v :: H) w') :
    Calls Tryz.prog 13 #[.agg #[.slice t.ao t.os.length t.co, .int .i64 t.data, .int .i64 t.lines, .slice t.ap t.ps.length t.cp], v] w' (fun e w'' => e = .returned (.tuple #[.int .i64 (costL t (anyL t x)), .int .i64 0]) ∧ Below w'.heap.size w' w'') := by
  obtain ⟨⟨a, c⟩, hx3, h2⟩ := hm.rtE
  rw [hx3]
  have a1 := any_lay ht x
  have a2 := (layE_ok a1).1
  have h1 := ht.n1
  have h3 := ht.d1
  exact cost_at t (anyL t x) a c w' hn (hT.old h2) (h2.ownRd (l := anyL t x) .here) ⟨by omega, (h2.own (l := anyL t x) .here).cap⟩ (cost_ok ht a1)
end

section
set_option linter.all false
set_option pp.maxSteps 100000
set_option maxRecDepth 100000
set_option maxHeartbeats 4000000
open Go.RowKit

theorem valid_v (t : TD) (p i e : Int) (w : World) (hT : t.At w) (hn : t.Len) (hr : chkL t = (p, i, e)) :
    Calls Tryz.prog 28 #[.agg #[.slice t.ao t.os.length t.co, .int .i64 t.data, .int .i64 t.lines, .slice t.ap t.ps.length t.cp]] w (fun e' w' => e' = .returned (.bool (e == 0)) ∧ Below w.heap.size w w') := by
  refine go_in Tryz.func28 rfl Tryz.ntmps28 [] [] (Mem.start _) ?_
  refine go ?_
  refine GoL.a (fun b2 => ?_)
  refine go ?_
  refine GoL.cv (fun w' hw => rcheck_v t p i e w' (hT.old hw) hn hr) ?_
  refine go ?_
  exact ev1 rfl
theorem acc_err {t : TD} {l : List LaP} (h : ¬ (accR t l).2 = 0) : (accR t l).1 = 0 := by
  unfold accR at h ⊢
  split
  · rfl
  split
  · rfl
  split
  · rfl
  rename_i h1 h2 h3
  rw [if_neg h1, if_neg h2, if_neg h3] at h
  split
  · rfl
  · rename_i b _ hb
    rw [hb] at h
    exact absurd rfl h
theorem proof_walk (t : TD) (l : List LaP) (al : Option Addr) (cl : Nat) (x : List Int) (ax : Option Addr) (cx : Nat) (w : World) (hn : t.Len) (hT : t.At w) (hl : Rd LaP.cs 3 w al l) (hll : l.length ≤ 9223372036854775807) (hx : Rd ucell 1 w ax x) (hxl : x.length ≤ 9223372036854775807) (hxb : ∀ a ∈ x, 0 ≤ a ∧ a ≤ 255) :
    Calls Tryz.prog 7 #[.agg #[.slice t.ao t.os.length t.co, .int .i64 t.data, .int .i64 t.lines, .slice t.ap t.ps.length t.cp], .slice al l.length cl, .slice ax x.length cx] w (fun e w' => e = .returned (.bool true) ∧ Below w.heap.size w w') := by
  obtain ⟨⟨p, i, e⟩, hr⟩ : ∃ q : Int × Int × Int, q = chkL t := ⟨_, rfl⟩
  refine go_in Tryz.func7 rfl Tryz.ntmps7 [] [] (Mem.start _) ?_
  refine go ?_
  refine GoL.a (fun b3 => ?_)
  refine go ?_
  by_cases he : e = 0
  rotate_left
  · refine GoL.cv (fun w' hw => Bound_bad t p i e w' hn (hT.old hw) hr.symm he) ?_
    have he2 : (e != 0) = true := by simpa using he
    refine go ?_
    refine GoL.cv (fun w' hw => awake_v w') ?_
    refine go ?_
    exact ev1 rfl
  subst he
  have ht := chkL_ok hr.symm
  have hR := hid hr
  clear hr
  have hown := hid (acc_own ht)
  have hbb := bound_le ht (anyL t x)
  have hb0 : 0 ≤ boundN t := by
    have h := (acc_all ht (l := boundL t) (by rw [acc_own ht])).1
    rw [acc_own ht] at h
    exact h
  have hbl : (boundL t).length ≤ 1500 := by
    have := (pairsTo_ok (t := t) t.ps.length (fun i hi => evs_len ht hi)).1
    have := ht.p1
    rw [bound_pairs ht]; omega
  have hbl2 := hid hbl
  clear hbl
  have h1 : ¬ costL t (anyL t x) < boundN t := by omega
  have h2 : ¬ boundN t < 0 := by omega
  refine GoL.c (fun w' hw => Bound_ok t p i w' hn (hT.old hw) hR.out.symm) (fun r => ?_)
  refine go ?_
  refine GoL.cv (fun w' hw => valid_v t p i 0 w' (hT.old hw) hn hR.out.symm) ?_
  refine go ?_
  refine GoL.cv (fun w' hw => Accept_v t (boundL t) _ _ w' hn (hT.old hw) (hw.rd pk) (by have := hbl2.out; omega)) ?_
  rw [hown.out]
  refine go ?_
  refine D.c (fun F w' hw => any_at t x ax cx w' hn ht (hw.old hx) hxl hxb) ?_
  refine go ?_
  refine D.cu (v := .tuple #[.int .i64 (costL t (anyL t x)), .int .i64 0]) [3] (fun X F w' hw => any_cost t x _ _ hn hT ht hw) ?_
  refine go ?_
  refine D.nil [] (fun X => ?_) (hchk := by show chkDD _ _ 0 [] = true; decide +kernel)
  refine go ?_
  refine GoL.cv (fun w' hw => Accept_v t l al cl w' hn (hT.old hw) (hw.old hl) hll) ?_
  by_cases hA : (accR t l).2 = 0
  · have h3 := acc_all ht hA
    have h4 := h3.1
    have h5 := h3.2
    clear h3
    rw [hA]
    refine go ?_
    refine GoL.cv (fun w' hw => awake_v w') ?_
    refine go ?_
    exact ev1 rfl
  · have h3 : ((accR t l).2 != 0) = true := by simpa using hA
    rw [acc_err hA]
    clear hA
    refine go ?_
    refine GoL.cv (fun w' hw => awake_v w') ?_
    refine go ?_
    exact ev1 rfl
end

section
set_option linter.all false
open Go.ChangeShapes Go.WideShapes Go.ChangeAt Go.RowKit Go.Deep

section
variable {H : Type} {enc : TypeId × Value → H} {w : World} {spare : Nat → Bool} {n : Nat}
set_option maxRecDepth 100000 in
theorem open_u8_2 {base : Nat} {v : Value} {d : DataW H} {p : List MemPlace} (hv : Value.okWide Tryz.prog w .any base 49 v) (h : DataW.Trod enc Tryz.prog w 0 spare true 49 v d p) :
    ∃ x0 x1 : Int, v = .agg #[.int .u8 x0, .int .u8 x1] ∧ (0 ≤ x0 ∧ x0 ≤ 255) ∧ (0 ≤ x1 ∧ x1 ≤ 255) := by
  obtain ⟨cs0, rfl, hsz⟩ := okWide_array Tryz.underlying49 hv; obtain ⟨fuel, hf0⟩ := h; have e : Value.cells (.agg cs0) = cs0 := rfl; rw [e] at hf0; obtain ⟨xs, m, _, _, hlen, hx, hf⟩ := DataW.trod_array Tryz.underlying49 hf0; have hl : cs0.toList.length = 2 := hlen.trans (by kernel_rfl)
  have ec : Tryz.prog.cellsOf 5 = 1 := by kernel_rfl
  obtain ⟨cs0⟩ := cs0
  match cs0, hl with
  | [c0, c1], _ =>
    obtain ⟨x0, h0, b0⟩ := fld_u8 (hf 0 (by decide)) (by omega); obtain ⟨x1, h1, b1⟩ := fld_u8 (hf 1 (by decide)) (by omega)
    simp [ec] at h0 h1
    subst h0 h1; exact ⟨x0, x1, rfl, b0, b1⟩
set_option maxRecDepth 100000 in
theorem open_u8s0 {fuel : Nat} {cs : List Value} {x : DataW H × List MemPlace} (h : DataW.trod enc Tryz.prog w 0 spare true fuel 46 cs = some x) (hlt : ∀ p ∈ x.2, p.block < w.heap.size) :
    ∃ a c, ∃ l : List Int, cs = [.slice a l.length c] ∧ Rd ucell 1 w a l ∧ l.length ≤ 9223372036854775807 ∧ l.length ≤ c ∧ ∀ y ∈ l, 0 ≤ y ∧ y ≤ 255 := by
  obtain ⟨a, c, l, hj, rj, nj, cj, kj⟩ := open_rows4 (f := ucell) (m := 1) (ok := fun y : Int => 0 ≤ y ∧ y ≤ 255) Tryz.underlying46 (by kernel_rfl) (fun n cs' z _ hz _ => by obtain ⟨k, hk, _, hw⟩ := DataW.trod_int Tryz.underlying5 hz; exact ⟨k, hk, bounds_u8 hw⟩) (by decide) h hlt
  exact ⟨a, c, l, hj, rj, nj, cj, kj⟩
set_option maxRecDepth 100000 in
theorem open_u8s {base : Nat} {v : Value} {d : DataW H} {p : List MemPlace} (hv : Value.okWide Tryz.prog w .any base 46 v) (h : DataW.Trod enc Tryz.prog w 0 spare true 46 v d p) (hlt : ∀ x ∈ p, x.block < w.heap.size) :
    ∃ (l : List Int) (a : Option Addr) (c : Nat), v = .slice a l.length c ∧ Rd ucell 1 w a l ∧ l.length ≤ 9223372036854775807 ∧ l.length ≤ c ∧ ∀ y ∈ l, 0 ≤ y ∧ y ≤ 255 := by
  obtain ⟨a0, len, cap, rfl⟩ := okWide_slice Tryz.underlying46 hv; obtain ⟨fuel, hf0⟩ := h; obtain ⟨a, c, l, hj, rj, nj, cj, kj⟩ := open_u8s0 hf0 (fun q hq => hlt q hq)
  simp [Value.cells] at hj
  obtain ⟨rfl, rfl, rfl⟩ := hj; exact ⟨l, a0, cap, rfl, rj, nj, cj, kj⟩
end
end

section
set_option linter.all false
open Go.ChangeShapes Go.WideShapes Go.ChangeAt Go.RowKit Go.Deep

section
variable {H : Type} {enc : TypeId × Value → H} {w : World} {spare : Nat → Bool} {n : Nat}
set_option maxRecDepth 100000 in
theorem open_pair1 {cs : List Value} {x : DataW H × List MemPlace} (h : DataW.trod enc Tryz.prog w 0 spare true n 83 cs = some x) : ∃ s : LaP, cs = LaP.cs s := by
  obtain ⟨xs, n', _, _, hlen, hx, hf⟩ := DataW.trod_struct Tryz.underlying83 h; have hl : cs.length = 3 := hlen.trans (by kernel_rfl); have hxl : xs.length = 3 := hx.trans (by rfl)
  match cs, hl with
  | [c0, c1, c2], _ =>
    obtain ⟨x0, h0, b0⟩ := fld_int (hf 0 _ rfl) (by omega); obtain ⟨x1, h1, b1⟩ := fld_int (hf 1 _ rfl) (by omega); obtain ⟨x2, h2, b2⟩ := fld_int (hf 2 _ rfl) (by omega); refine ⟨⟨x0, x1, x2⟩, ?_⟩
    have ec : Tryz.prog.cellsOf 3 = 1 := by kernel_rfl
    simp [ec] at h0 h1 h2
    subst h0 h1 h2; rfl
set_option maxRecDepth 100000 in
theorem open_pairs {base : Nat} {v : Value} {d : DataW H} {p : List MemPlace} (hv : Value.okWide Tryz.prog w .any base 34 v) (h : DataW.Trod enc Tryz.prog w 0 spare true 34 v d p) (hlt : ∀ x ∈ p, x.block < w.heap.size) :
    ∃ (l : List LaP) (a : Option Addr) (c : Nat), v = .slice a l.length c ∧ Rd LaP.cs 3 w a l ∧ l.length ≤ 9223372036854775807 := by
  obtain ⟨a0, len, cap, rfl⟩ := okWide_slice Tryz.underlying34 hv; obtain ⟨fuel, hf0⟩ := h
  obtain ⟨a, c, l, hj, rj, nj, cj, _⟩ := open_rows4 (f := LaP.cs) (m := 3) (ok := fun _ : LaP => True) Tryz.underlying34 (by kernel_rfl) (fun n cs' z _ hz _ => (open_pair1 hz).imp fun _ e => ⟨e, trivial⟩) (by decide) hf0 (fun q hq => hlt q hq)
  simp [Value.cells] at hj
  obtain ⟨rfl, rfl, rfl⟩ := hj
  unfold maxLen at nj
  exact ⟨l, a0, cap, rfl, rj, by omega⟩
end
end


end Go.Proofs.YtigehmghcafblaaGreat
