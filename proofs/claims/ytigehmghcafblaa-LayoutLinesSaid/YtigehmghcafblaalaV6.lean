/- LayoutBest. -/
import Derived.Test.YtigehmghcafblaalaT7
set_option linter.all false
namespace Go.Proofs.Ytigehmghcafblaa

section
set_option linter.all false
set_option pp.maxSteps 100000
set_option maxRecDepth 100000
set_option maxHeartbeats 4000000
open Go.RowKit

theorem best_more (t : TD) (w : World) (hn : t.Len) (hT : t.At w) (he : bestEr t.moreL = 0) :
    Calls Try.prog 11 #[.agg #[.slice t.ao t.os.length t.co, .int .i64 t.data, .int .i64 (t.lines + 1), .slice t.ap t.ps.length t.cp]] w (Ret (fun q : Option Addr × Nat => .tuple #[.slice q.1 (bestL t.moreL).length q.2, .int .i64 0]) (fun q => [.pure ((bestL t.moreL).length ≤ q.2), .rd icell 1 q.1 (bestL t.moreL)]) w) :=
  Best_okc t.moreL w ⟨hn.o, hn.p, hn.q⟩ ⟨hT.o, hT.p, hT.q⟩ he
theorem cost_more (t : TD) (lay : List Int) (al : Option Addr) (cl : Nat) (w : World) (hn : t.Len) (hT : t.At w) (hl : Rd icell 1 w al lay) (hll : lay.length ≤ 9223372036854775807 ∧ lay.length ≤ cl) {n : Int} (hr : costR t.moreL lay = (n, 0)) :
    Calls Try.prog 8 #[.agg #[.slice t.ao t.os.length t.co, .int .i64 t.data, .int .i64 (t.lines + 1), .slice t.ap t.ps.length t.cp], .slice al lay.length cl] w (fun e w' => e = .returned (.tuple #[.int .i64 n, .int .i64 0]) ∧ Below w.heap.size w w') := by
  have := Cost_v t.moreL lay al cl w ⟨hn.o, hn.p, hn.q⟩ ⟨hT.o, hT.p, hT.q⟩ hl hll
  rw [hr] at this
  exact this
theorem cost_at (t : TD) (lay : List Int) (al : Option Addr) (cl : Nat) (w : World) (hn : t.Len) (hT : t.At w) (hl : Rd icell 1 w al lay) (hll : lay.length ≤ 9223372036854775807 ∧ lay.length ≤ cl) {n : Int} (hr : costR t lay = (n, 0)) :
    Calls Try.prog 8 #[.agg #[.slice t.ao t.os.length t.co, .int .i64 t.data, .int .i64 t.lines, .slice t.ap t.ps.length t.cp], .slice al lay.length cl] w (fun e w' => e = .returned (.tuple #[.int .i64 n, .int .i64 0]) ∧ Below w.heap.size w w') := by
  have := Cost_v t lay al cl w hn hT hl hll
  rw [hr] at this
  exact this
theorem lines_walk (t : TD) (w : World) (hn : t.Len) (hT : t.At w) :
    Calls Try.prog 7 #[.agg #[.slice t.ao t.os.length t.co, .int .i64 t.data, .int .i64 t.lines, .slice t.ap t.ps.length t.cp]] w (fun e w' => e = .returned (.bool true) ∧ Below w.heap.size w w') := by
  refine go_in Try.func7 rfl Try.ntmps7 [] [] (Mem.start _) ?_
  refine go ?_
  refine GoL.a (fun b1 => ?_)
  refine go ?_
  by_cases he : bestEr t = 0
  rotate_left
  · refine GoL.cv (fun w' hw => Best_bad t w' hn (hT.old hw) he) ?_
    have he2 : (bestEr t != 0) = true := by simpa using he
    refine go ?_
    refine GoL.cv (fun w' hw => awake_v w') ?_
    refine go ?_
    exact ev1 rfl
  obtain ⟨ht, hf, _⟩ := bestEr_ok he
  have hl1 := ht.l1
  have hr := best_res he
  have hln := hid (show (bestL t).length ≤ 40 by have := hr.2.2.1; have := ht.n1; have := ht.d1; omega)
  clear hr
  refine GoL.c (fun w' hw => Best_okc t w' hn (hT.old hw) he) (fun q => ?_)
  refine GoL.pure (fun hq => ?_)
  refine go ?_
  refine go_if (fun h8 => ?_) (fun h8 => ?_)
  · refine go ?_
    refine GoL.cv (fun w' hw => awake_v w') ?_
    refine go ?_
    exact ev1 rfl
  obtain ⟨he2, c1, c2, c3⟩ := lines_res he h8
  have hm := TD.moreL_ok ht h8
  have hr := best_res he2
  have hln2 := hid (show (bestL t.moreL).length ≤ 40 by have := hr.2.2.1; have : t.moreL.os.length + t.moreL.data.toNat = t.os.length + t.data.toNat := rfl; have := ht.n1; have := ht.d1; omega)
  clear hr
  have hc1 := hid c1
  have hc2 := hid c2
  clear c1 c2
  generalize hB : bestL t = B at *
  generalize hC : bestL t.moreL = C at *
  refine go ?_
  refine GoL.a (fun b5 => ?_)
  refine go ?_
  refine GoL.c (fun w' hw => best_more t w' hn (hT.old hw) he2) (fun q2 => ?_)
  rw [hC]
  refine GoL.pure (fun hq2 => ?_)
  refine go ?_
  refine GoL.cv (fun w' hw => cost_at t B _ _ w' hn (hT.old hw) (hw.rd pk) ⟨by have := hln.out; omega, hq⟩ hc1.out) ?_
  refine go ?_
  refine GoL.cv (fun w' hw => cost_more t C _ _ w' hn (hT.old hw) (hw.rd pk) ⟨by have := hln2.out; omega, hq2⟩ hc2.out) ?_
  refine go ?_
  refine GoL.cv (fun w' hw => awake_v w') ?_
  refine go ?_
  exact ev1 rfl
end

section
set_option linter.all false
set_option pp.maxSteps 100000
set_option maxRecDepth 100000
set_option maxHeartbeats 4000000
open Go.RowKit

theorem good_at (t : TD) (w : World) (hn : t.Len) (hT : t.At w) (ht : t.Ok) :
    Calls Try.prog 17 #[.agg #[.slice t.ao t.os.length t.co, .int .i64 t.data, .int .i64 t.lines, .slice t.ap t.ps.length t.cp]] w (Ret (fun g : Nat => .tuple #[.slice (some ⟨g, 0, none⟩) (goodL t).length (goodL t).length, .int .i64 0]) (fun g => [.cells g (ic (goodL t))]) w) := by
  rw [(good_res ht).2.1]
  exact Good_ok t 0 0 w hn hT (chkL_mk ht)
theorem any_at (t : TD) (x : List Int) (ax : Option Addr) (cx : Nat) (w : World) (hn : t.Len) (ht : t.Ok) (hx : Rd ucell 1 w ax x) (hxl : x.length ≤ 9223372036854775807) (hxb : ∀ a ∈ x, 0 ≤ a ∧ a ≤ 255) :
    Calls Try.prog 18 #[.agg #[.slice t.ao t.os.length t.co, .int .i64 t.data, .int .i64 t.lines, .slice t.ap t.ps.length t.cp], .slice ax x.length cx] w (Ret (fun q : Option Addr × Nat => .slice q.1 (anyL t x).length q.2) (fun q => [.own icell 1 3 (.slice q.1 (anyL t x).length q.2) (anyL t x)]) w) :=
  Any_v t x ax cx w hn ht.n1 ht.d1 ht.l1 ht.it hx hxl hxb
theorem best_walk (t : TD) (x : List Int) (ax : Option Addr) (cx : Nat) (w : World) (hn : t.Len) (hT : t.At w) (hx : Rd ucell 1 w ax x) (hxl : x.length ≤ 9223372036854775807) (hxb : ∀ a ∈ x, 0 ≤ a ∧ a ≤ 255) :
    Calls Try.prog 4 #[.agg #[.slice t.ao t.os.length t.co, .int .i64 t.data, .int .i64 t.lines, .slice t.ap t.ps.length t.cp], .slice ax x.length cx] w (fun e w' => e = .returned (.bool true) ∧ Below w.heap.size w w') := by
  refine go_in Try.func4 rfl Try.ntmps4 [] [] (Mem.start _) ?_
  refine go ?_
  refine GoL.a (fun b2 => ?_)
  refine go ?_
  by_cases he : bestEr t = 0
  rotate_left
  · refine GoL.cv (fun w' hw => Best_bad t w' hn (hT.old hw) he) ?_
    have he2 : (bestEr t != 0) = true := by simpa using he
    refine go ?_
    refine GoL.cv (fun w' hw => awake_v w') ?_
    refine go ?_
    exact ev1 rfl
  obtain ⟨ht, hf, _⟩ := bestEr_ok he
  have hit : t.os.length + t.data.toNat ≤ 40 := by have := ht.n1; have := ht.d1; omega
  obtain ⟨b1, h00, b3, hpos, hmin⟩ := best_res he
  obtain ⟨g1, g2, _⟩ := good_res ht
  have a1 := any_lay ht x
  have a2 := (layE_ok a1).1
  have hab := hmin _ g1
  have hac := hmin _ a1
  have hcb := bound_le ht (bestL t)
  have cB := hid (cost_ok ht b1)
  have cG := hid (cost_ok ht g1)
  have cA := hid (cost_ok ht a1)
  have lB := hid (show (bestL t).length ≤ 40 by omega)
  have lG := hid (show (goodL t).length ≤ 40 by omega)
  have lA := hid (show (anyL t x).length ≤ 40 by omega)
  clear b1 b3 g1 g2 a1 a2 hmin
  have hpos2 : (0 : Int) < (bestL t).length := by omega
  generalize hbb : bestL t = B at *
  refine GoL.c (fun w' hw => Best_okc t w' hn (hT.old hw) he) (fun q => ?_)
  rw [hbb]
  refine GoL.pure (fun hq => ?_)
  refine go ?_
  refine GoL.c (fun w' hw => good_at t w' hn (hT.old hw) ht) (fun g => ?_)
  refine go ?_
  refine GoL.cv (fun w' hw => cost_at t B _ _ w' hn (hT.old hw) (hw.rd pk) ⟨by have := lB.out; omega, hq⟩ cB.out) ?_
  refine go ?_
  refine GoL.cv (fun w' hw => cost_at t (goodL t) _ _ w' hn (hT.old hw) (rdC (hw.cells pk)) ⟨by have := lG.out; omega, Nat.le_refl _⟩ cG.out) ?_
  refine go ?_
  refine D.c (fun F w' hw => any_at t x ax cx w' hn ht (hw.old hx) hxl hxb) ?_
  refine go ?_
  refine D.cu (v := .tuple #[.int .i64 (costL t (anyL t x)), .int .i64 0]) [3] (fun X F w' hw => ?_) ?_
  rotate_left
  · refine go ?_
    refine D.nil [] (fun X => ?_) (hchk := by show chkDD _ _ 0 [] = true; decide +kernel)
    refine go ?_
    refine GoL.c (fun w' hw => Bound_ok t 0 0 w' hn (hT.old hw) (chkL_mk ht)) (fun r => ?_)
    refine go ?_
    refine GoL.cv (fun w' hw => awake_v w') ?_
    refine go ?_
    exact ev1 rfl
  have hw2 : Mem w [] (.rt (fun q : Option Addr × Nat => .slice q.1 (anyL t x).length q.2) (fun q => [.own icell 1 3 (.slice q.1 (anyL t x).length q.2) (anyL t x)]) (X 3) :: _) w' := hw
  obtain ⟨⟨a, c⟩, hx3, h2⟩ := hw2.rtE
  have hx3' : X (0 + 1 + 1 + 1) = .slice a (anyL t x).length c := hx3
  rw [hx3']
  exact cost_at t (anyL t x) a c w' hn (hT.old h2) (h2.ownRd (l := anyL t x) .here) ⟨by have := lA.out; omega, (h2.own (l := anyL t x) .here).cap⟩ cA.out
end


end Go.Proofs.Ytigehmghcafblaa
