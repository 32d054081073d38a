/- layout: Lay of a layout. -/
import Derived.Test.YtigehmghcafblaaGreatlzW31
set_option linter.all false
namespace Go.Proofs.YtigehmghcafblaaGreat

section
set_option linter.all false
set_option pp.maxSteps 100000
set_option maxRecDepth 100000
set_option maxHeartbeats 4000000
open Go.RowKit

@[simp] def swC (p : Nat × Nat) : List Value := [.int .i64 p.1, .int .i64 p.2]
theorem swC_one (p : Nat × Nat) : ∀ u ∈ swC p, u.oneCell' = true := by intro u hu; simp at hu; rcases hu with rfl | rfl <;> rfl
theorem elW : ElemT Tryz.prog 113 112 2 16 := ElemT.mk' (z := .agg #[.int .i64 0, .int .i64 0]) Tryz.underlying113 (by kernel_rfl) rfl
def swO (n i : Nat) : List (Nat × Nat) := (0, 0) :: rowsTo n i
def swT (n i j : Nat) : List (Nat × Nat) := (0, 0) :: (rowsTo n i ++ rowK i j)
theorem swT_0 (n i : Nat) : swT n i 0 = swO n i := by simp [swT, swO, rowK]
theorem swT_len (n i j : Nat) : (swT n i j).length = (rowsTo n i ++ rowK i j).length + 1 := by simp [swT]
theorem rowsTo_len2 {n : Nat} : ∀ i, i ≤ n → 2 * (rowsTo n i).length + i * (i + 1) ≤ 2 * (n * i)
  | 0, _ => by simp [rowsTo]
  | i + 1, h => by
    have := rowsTo_len2 i (by omega : i ≤ n)
    rw [rowsTo, List.length_append, rowK_len, Nat.mul_succ n i]
    have e : (i + 1) * (i + 1 + 1) = i * (i + 1) + 2 * (i + 1) := by rw [← Nat.add_mul, Nat.mul_comm]
    omega
theorem rowsTo_len3 {n : Nat} (hn : n ≤ 40) : (rowsTo n n).length ≤ 780 := by
  have h1 := rowsTo_len2 (n := n) n (Nat.le_refl _)
  obtain ⟨q, hq⟩ : ∃ q, q = n * n := ⟨_, rfl⟩
  have h2 : n * (n + 1) = q + n := by rw [Nat.mul_succ, hq]
  rw [h2, ← hq] at h1
  have h3 : ∀ m ≤ 40, m * m - m ≤ 1560 := by decide
  have h4 := h3 n hn
  rw [← hq] at h4
  omega
theorem Good_bad (t : TD) (p i e : Int) (w : World) (hn : t.Len) (hT : t.At w) (hr : chkL t = (p, i, e)) (he : ¬ e = 0) :
    Calls Tryz.prog 21 #[.agg #[.slice t.ao t.os.length t.co, .int .i64 t.data, .int .i64 t.lines, .slice t.ap t.ps.length t.cp]] w (fun e' w' => e' = .returned (.tuple #[.slice none 0 0, .int .i64 e]) ∧ Below w.heap.size w w') := by
  refine go_in Tryz.func21 rfl Tryz.ntmps21 [] [] (Mem.start _) ?_
  refine go ?_
  refine GoL.a (fun b1 => ?_)
  refine go ?_
  refine GoL.cv (fun w' hw => open_bad t p i e w' hn (hT.old hw) hr he) ?_
  refine go ?_
  refine go_if (fun h => ?_) (fun h => ?_)
  rotate_left
  · exact absurd h he
  refine go ?_
  exact ev2 ⟨rfl, rfl⟩
theorem Good_ok (t : TD) (p i : Int) (w : World) (hn : t.Len) (hT : t.At w) (hr : chkL t = (p, i, 0)) :
    Calls Tryz.prog 21 #[.agg #[.slice t.ao t.os.length t.co, .int .i64 t.data, .int .i64 t.lines, .slice t.ap t.ps.length t.cp]] w (Ret (fun g : Nat => .tuple #[.slice (some ⟨g, 0, none⟩) (t.os.length + t.data.toNat) (t.os.length + t.data.toNat), .int .i64 0]) (fun g => [.cells g (ic (goodL t))]) w) := by
  have htok := chkL_ok hr
  refine go_in Tryz.func21 rfl Tryz.ntmps21 [] [] (Mem.start _) ?_
  refine go ?_
  refine GoL.a (fun b1 => ?_)
  refine go ?_
  refine GoL.c (fun w' hw => open_ok t p i w' hn (hT.old hw) hr) (fun x => ?_)
  obtain ⟨x, b⟩ := x
  refine GoL.pure (fun hx => ?_)
  dsimp only at hx ⊢
  obtain ⟨rfl, hes, hcap⟩ := hx
  have hok := plan_ok htok hes hcap
  have hn1 : 1 ≤ x.n ∧ x.n ≤ 40 := by have := hok.n1; have := hok.d1; unfold PD.n; omega
  have hl1 := htok.l1
  have hG0 : LayG x.n x.t.lines (laidL x.t) := laid_good htok
  have hcost : ∀ lay, LayG x.n x.t.lines lay → ∀ g w', Mem w [] g w' → x.At b w' → ∀ al, Rd icell 1 w' al lay → Calls Tryz.prog 43 #[.pointer (some ⟨b, 0, none⟩), .slice al x.n x.n] w' (fun e w'' => e = .returned (.int .i64 (costL x.t lay)) ∧ Below w'.heap.size w' w'') := fun lay hG g w' _ hA al hR => by
    have := cost_v x b lay al x.n w' hA hok hR hG.len (fun a ha => by have := hG.rg a ha; omega)
    rw [hG.len, cost_eq hes] at this
    exact this
  have hcb : ∀ lay, LayG x.n x.t.lines lay → 0 ≤ costL x.t lay := fun lay hG => by
    rw [← cost_eq hes]
    exact (costT_bd (cnt := fun i => (lx x.t.ps i).cnt) (es := fun i => (lx x.es i).l) (lay := lay) (m := x.es.length) (fun i hi => hok.cnt _ (lx_mem (by have := hok.e1; omega))) (fun i hi => pathT_bd (fun v hv => (hok.item _ (lx_mem hi) v hv).2.2) ⟨(hok.len _ (lx_mem hi)).1, (hok.len _ (lx_mem hi)).2.1⟩) x.es.length (Nat.le_refl _)).1
  rw [show x.t.os.length + x.t.data.toNat = x.n from rfl]
  refine go ?_
  refine GoL.c (fun w' hw => laid_v x b w' (hw.plan pk (hT.old hw)) hok htok hes) (fun g => ?_)
  refine go ?_
  refine GoL.cv (fun w' hw => hcost _ hG0 _ w' hw (hw.plan pk (hT.old hw)) _ (rdC (hw.cells pk))) ?_
  refine go ?_
  refine go_loop (X := Nat × List Int) (fun y => goodF x.t y.1 y.2 = goodL x.t ∧ LayG x.n x.t.lines y.2 ∧ costL x.t y.2 < y.1) (fun y => y.1) (fun y => [(7, .int .i64 (costL x.t y.2))]) (fun y => [.cells g (ic y.2), .plan x b]) ((costL x.t (laidL x.t)).toNat + 1, laidL x.t) [4, 6] ⟨rfl, hG0, by simp only; omega⟩ (by simp [AgreeL, At]) sb (fun y hy => ?_)
  obtain ⟨m, lay⟩ := y
  dsimp only at hy ⊢
  obtain ⟨hm, hG, hmc⟩ := hy
  have hnow := hcb lay hG
  obtain ⟨m', rfl⟩ : ∃ m', m = m' + 1 := ⟨m - 1, by omega⟩
  have HLN := hid hG.len
  refine go ?_
  refine GoL.sl (Ef.lit (f := swC) (m := 2) (e := 112) [((0 : Nat), (0 : Nat))] (fun _ => rfl) rfl) (fun a8 c8 => ?_)
  refine go ?_
  refine GoL.sl (Ef.lit (f := icell) (m := 1) (e := 3) [costL x.t lay] (fun _ => rfl) rfl) (fun a9 c9 => ?_)
  refine go ?_
  refine go_loop (X := Nat × (Option Addr × Nat) × (Option Addr × Nat)) (fun y => y.1 ≤ x.n) (fun y => x.n - y.1) (fun y => [(34, .int .i64 y.1), (8, .slice y.2.1.1 (swO x.n y.1).length y.2.1.2), (9, .slice y.2.2.1 (exC x.t lay (rowsTo x.n y.1)).length y.2.2.2)])
    (fun y => [.cells g (ic lay), .plan x b, .own swC 2 112 (.slice y.2.1.1 (swO x.n y.1).length y.2.1.2) (swO x.n y.1), .own icell 1 3 (.slice y.2.2.1 (exC x.t lay (rowsTo x.n y.1)).length y.2.2.2) (exC x.t lay (rowsTo x.n y.1))]) (0, (a8, c8), (a9, c9)) [4, 6, 7, 33] (Nat.zero_le _) (by simp [AgreeL, At, rowsTo, exC, swO]) sb (fun y hy => ?_)
  obtain ⟨i, ⟨a8, c8⟩, a9, c9⟩ := y
  dsimp only at hy ⊢
  have hrl := rowsTo_len (n := x.n) i
  have hrl2 : x.n * i ≤ 1600 := by
    have := Nat.mul_le_mul hn1.2 (show i ≤ 40 by omega)
    omega
  refine go ?_
  refine go_if (fun h => ?_) (fun h => ?_)
  · have hi2 : i < x.n := by omega
    refine go ?_
    refine go_loop (X := Nat × (Option Addr × Nat) × (Option Addr × Nat)) (fun y => i + 1 + y.1 ≤ x.n) (fun y => x.n - y.1) (fun y => [(11, .int .i64 ((i : Int) + 1 + y.1)), (8, .slice y.2.1.1 (swT x.n i y.1).length y.2.1.2), (9, .slice y.2.2.1 (exC x.t lay (rowsTo x.n i ++ rowK i y.1)).length y.2.2.2)])
      (fun y => [.cells g (ic lay), .plan x b, .own swC 2 112 (.slice y.2.1.1 (swT x.n i y.1).length y.2.1.2) (swT x.n i y.1), .own icell 1 3 (.slice y.2.2.1 (exC x.t lay (rowsTo x.n i ++ rowK i y.1)).length y.2.2.2) (exC x.t lay (rowsTo x.n i ++ rowK i y.1))]) (0, (a8, c8), (a9, c9)) [4, 6, 7, 10, 33, 34] (by simp only; omega) (by simp [AgreeL, At, rowK, swT_0]) (by simp only [rowK, List.append_nil, swT_0]; exact sb) (fun y hy => ?_)
    obtain ⟨j, ⟨a8, c8⟩, a9, c9⟩ := y
    dsimp only at hy ⊢
    have hrk := hid (rowK_len i j)
    refine go ?_
    refine go_if (fun h3 => ?_) (fun h3 => ?_)
    rotate_left
    · obtain rfl : j = x.n - (i + 1) := by omega
      refine go ?_
      rw [show rowsTo x.n i ++ rowK i (x.n - (i + 1)) = rowsTo x.n (i + 1) from rfl, show swT x.n i (x.n - (i + 1)) = swO x.n (i + 1) from rfl]
      exact go_again (i + 1, (a8, c8), (a9, c9)) (by simp only; omega) (by simp only; omega) (by simp [AgreeL, At]) sb
    have hk2 : i + 1 + j < x.n := by omega
    have hkl : i + 1 + j < lay.length := by rw [HLN.out]; exact hk2
    have hil : i < lay.length := by rw [HLN.out]; exact hi2
    have hii : (i : Int) < (x.n : Int) := by omega
    have hki : (i : Int) + 1 + j < (x.n : Int) := by omega
    refine go_skip ?_
    refine xt_n ?_
    refine go_seq ?_
    refine go_blk ?_
    refine go_seq ?_
    refine go_drw [.cells g (ic lay)] [.plan x b, .own swC 2 112 (.slice a8 (swT x.n i j).length c8) (swT x.n i j), .own icell 1 3 (.slice a9 (exC x.t lay (rowsTo x.n i ++ rowK i j)).length c9) (exC x.t lay (rowsTo x.n i ++ rowK i j))] ?_
    refine go ?_
    refine D.qu [16] ⟨_, fun X F => Ex.la (b := g) (l := lay) (i := i + 1 + j) (fun w hw => hw.cells .here) (by omega), ?_⟩
    refine go ?_
    refine D.qu [16] ⟨_, fun X F => Ex.la (b := g) (l := lay) (i := i) (fun w hw => hw.cells .here) (by omega), ?_⟩
    refine go ?_
    refine D.s (A := fun _ _ => .cells g (ic ((lay).set i (lx (lay) (i + 1 + j))))) [] [] [16] (fun X F => Ef.sa .here (by omega)) ?_
    refine D.nil [(13, fun _ => .cells g (ic ((lay).set i (lx (lay) (i + 1 + j)))))] (fun X => ?_) (hchk := (by show chkDD _ _ 1 [13] = true; decide +kernel))
    refine go ?_
    refine GoL.sa (b := g) (l := (lay).set i (lx (lay) (i + 1 + j))) (i := i + 1 + j) (z := lx (lay) i) .here (by rw [List.length_set]; omega) ?_
    rw [show ((lay).set i (lx (lay) (i + 1 + j))).set (i + 1 + j) (lx (lay) i) = exch lay i (i + 1 + j) from rfl]
    have hGe := hG.exch hi2 hk2
    have he7 : (rowsTo x.n i ++ rowK i j).length ≤ 1999 := by rw [List.length_append, hrk.out]; omega
    have he8 : (swT x.n i j).length ≤ 2000 := by rw [swT_len]; omega
    have he9 : (exC x.t lay (rowsTo x.n i ++ rowK i j)).length ≤ 2000 := by rw [exC_len]; omega
    have hel : i + 1 + j < (exch lay i (i + 1 + j)).length := by rw [exch_len]; exact hkl
    have hel2 : i < (exch lay i (i + 1 + j)).length := by rw [exch_len]; exact hil
    refine go ?_
    refine GoL.sl (Ef.lit (f := swC) (m := 2) (e := 112) [(i, i + 1 + j)] (fun _ => rfl) rfl) (fun a5 c5 => ?_)
    refine go ?_
    refine GoL.sl (Ef.app (f := swC) (l := swT x.n i j) (l2 := [(i, i + 1 + j)]) (v := .slice a8 (swT x.n i j).length c8) elW (fun _ => rfl) swC_one (by simp only [List.length_cons, List.length_nil]; omega) pk (fun w hw => hw.ownRd (l := [(i, i + 1 + j)]) pk)) (fun a6 c6 => ?_)
    refine go ?_
    refine GoL.cv (fun w' hw => hcost _ hGe _ w' hw (hw.plan pk (hT.old hw)) _ (rdC (hw.cells pk))) ?_
    refine go ?_
    refine GoL.sl (Ef.lit (f := icell) (m := 1) (e := 3) [costL x.t (exch lay i (i + 1 + j))] (fun _ => rfl) rfl) (fun a10 c10 => ?_)
    refine go ?_
    refine GoL.sl (Ef.app (f := icell) (l := exC x.t lay (rowsTo x.n i ++ rowK i j)) (l2 := [costL x.t (exch lay i (i + 1 + j))]) (v := .slice a9 (exC x.t lay (rowsTo x.n i ++ rowK i j)).length c9) elI (fun _ => rfl) icell_one (by simp only [List.length_cons, List.length_nil]; omega) pk (fun w hw => hw.ownRd (l := [costL x.t (exch lay i (i + 1 + j))]) pk)) (fun a7 c7 => ?_)
    rw [show swT x.n i j ++ [(i, i + 1 + j)] = swT x.n i (j + 1) by simp [rowK, swT], show exC x.t lay (rowsTo x.n i ++ rowK i j) ++ [costL x.t (exch lay i (i + 1 + j))] = exC x.t lay (rowsTo x.n i ++ rowK i (j + 1)) by simp [exC, rowK]]
    refine GoL.q ⟨_, Ex.q, ?_⟩
    refine GoL.q ⟨_, Ex.q, ?_⟩
    refine go_nil ?_
    refine xt_n ?_
    refine go_sub (K := [.cells g (ic (exch lay i (i + 1 + j))), .plan x b, .own swC 2 112 (.slice a6 (swT x.n i (j + 1)).length c6) (swT x.n i (j + 1)), .own icell 1 3 (.slice a7 (exC x.t lay (rowsTo x.n i ++ rowK i (j + 1))).length c7) (exC x.t lay (rowsTo x.n i ++ rowK i (j + 1)))]) ?_ sb
    refine go_drw [.cells g (ic (exch lay i (i + 1 + j)))] [.plan x b, .own swC 2 112 (.slice a6 (swT x.n i (j + 1)).length c6) (swT x.n i (j + 1)), .own icell 1 3 (.slice a7 (exC x.t lay (rowsTo x.n i ++ rowK i (j + 1))).length c7) (exC x.t lay (rowsTo x.n i ++ rowK i (j + 1)))] ?_
    refine go ?_
    refine D.qu [16] ⟨_, fun X F => Ex.la (b := g) (l := exch lay i (i + 1 + j)) (i := i + 1 + j) (fun w hw => hw.cells .here) hel, ?_⟩
    refine go ?_
    refine D.qu [16] ⟨_, fun X F => Ex.la (b := g) (l := exch lay i (i + 1 + j)) (i := i) (fun w hw => hw.cells .here) hel2, ?_⟩
    refine go ?_
    refine D.s (A := fun _ _ => .cells g (ic ((exch lay i (i + 1 + j)).set i (lx (exch lay i (i + 1 + j)) (i + 1 + j))))) [] [] [16] (fun X F => Ef.sa .here hel2) ?_
    refine D.nil [(13, fun _ => .cells g (ic ((exch lay i (i + 1 + j)).set i (lx (exch lay i (i + 1 + j)) (i + 1 + j)))))] (fun X => ?_) (hchk := (by show chkDD _ _ 1 [13] = true; decide +kernel))
    refine go ?_
    refine GoL.sa (b := g) (l := (exch lay i (i + 1 + j)).set i (lx (exch lay i (i + 1 + j)) (i + 1 + j))) (i := i + 1 + j) (z := lx (exch lay i (i + 1 + j)) i) .here (by rw [List.length_set]; exact hel) ?_
    rw [show ((exch lay i (i + 1 + j)).set i (lx (exch lay i (i + 1 + j)) (i + 1 + j))).set (i + 1 + j) (lx (exch lay i (i + 1 + j)) i) = lay from exch_back hil hkl]
    refine go ?_
    exact go_again (j + 1, (a6, c6), (a7, c7)) (by simp only; omega) (by simp only; omega) (by simp [AgreeL, At]; omega) sb
  · obtain rfl : i = x.n := by omega
    have hl3 := hid (rowsTo_len3 hn1.2)
    refine go ?_
    refine GoL.cv (fun w' hw => least_v _ a9 c9 w' (hw.ownRd pk) (by rw [exC_len]; have := hl3.out; omega)) ?_
    have hst := good_step hG
    rw [goodF, HLN.out] at hm
    rw [HLN.out] at hst
    have hEL := hid (exC_len x.t lay (rowsTo x.n x.n))
    obtain ⟨K, hK⟩ : ∃ K, K = leastK (exC x.t lay (rowsTo x.n x.n)) (exC x.t lay (rowsTo x.n x.n)).length := ⟨_, rfl⟩
    rw [← hK] at hm hst ⊢
    clear hK
    refine go ?_
    refine go_if (fun h4 => ?_) (fun h4 => ?_)
    · have hK0 : K = 0 := by omega
      rw [if_pos hK0] at hm
      refine go ?_
      exact end2 (fun w' hw => ⟨g, rfl, by rw [← hm]; exact hw.done sb⟩)
    have hK0 : ¬ K = 0 := by omega
    rw [if_neg hK0] at hm
    obtain ⟨f1, f2, f3, f4, f5⟩ := hst hK0
    obtain ⟨S, hS⟩ : ∃ S, S = swO x.n x.n := ⟨_, rfl⟩
    rw [show (0, 0) :: rowsTo x.n x.n = S from hS.symm] at hm f2 f3 f4 f5
    rw [← hS]
    have hSl : S.length = (rowsTo x.n x.n).length + 1 := by rw [hS]; rfl
    have hKS : K < S.length := by rw [hSl, ← hEL.out]; exact f1
    clear hS hSl
    refine go ?_
    refine D.q ⟨_, fun X F => Ex.ix (l := S) (f := swC) (m := 2) (i := K) (hi := Int.toNat_natCast K) (hc := fun w hw => hw.ownRd pk), ?_⟩
    refine D.q ⟨_, fun X F => Ex.fr0, ?_⟩
    refine D.q ⟨_, fun X F => Ex.rl (l := S) (f := swC) (hc := fun w hw => hw.ownRd pk), ?_⟩
    refine go ?_
    refine D.q ⟨_, fun X F => Ex.ix (l := S) (f := swC) (m := 2) (i := K) (hi := Int.toNat_natCast K) (hc := fun w hw => hw.ownRd pk), ?_⟩
    refine D.q ⟨_, fun X F => Ex.fr, ?_⟩
    refine D.q ⟨_, fun X F => Ex.rl (l := S) (f := swC) (hc := fun w hw => hw.ownRd pk), ?_⟩
    refine D.q ⟨_, fun X F => Ex.q, ?_⟩
    refine D.nil0 ⟨_, by intro X; rfl, ⟨by kernel_rfl, by kernel_rfl⟩, by decide +kernel, ?_⟩
    refine GoL.q ⟨_, Ex.q, ?_⟩
    refine go_nil ?_
    refine xt_n ?_
    have g1 : (lx S K).1 < lay.length := by rw [HLN.out]; omega
    have g2 : (lx S K).2 < lay.length := by rw [HLN.out]; omega
    have g3 : ((lx S K).1 : Int) < (x.n : Int) := by omega
    have g4 : ((lx S K).2 : Int) < (x.n : Int) := by omega
    have f4' := hid f4
    have hm' := hid hm
    clear f4 hm
    refine go_drw [.cells g (ic lay)] [.plan x b, .own swC 2 112 (.slice a8 S.length c8) S, .own icell 1 3 (.slice a9 (exC x.t lay (rowsTo x.n x.n)).length c9) (exC x.t lay (rowsTo x.n x.n))] ?_
    refine go ?_
    refine D.qu [21] ⟨_, fun X F => Ex.la (b := g) (l := lay) (i := (lx S K).2) (fun w hw => hw.cells .here) g2, ?_⟩
    refine go ?_
    refine D.qu [21] ⟨_, fun X F => Ex.la (b := g) (l := lay) (i := (lx S K).1) (fun w hw => hw.cells .here) g1, ?_⟩
    refine go ?_
    refine D.q ⟨_, fun X F => Ex.ix (l := exC x.t lay (rowsTo x.n x.n)) (f := icell) (m := 1) (i := K) (hi := Int.toNat_natCast K) (hc := fun w hw => hw.ownRd pk), ?_⟩
    refine D.q ⟨_, fun X F => Ex.rl (l := exC x.t lay (rowsTo x.n x.n)) (f := icell) (hc := fun w hw => hw.ownRd pk), ?_⟩
    refine go ?_
    refine D.s (A := fun _ _ => .cells g (ic (lay.set (lx S K).1 (lx lay (lx S K).2)))) [] [] [21] (fun X F => Ef.sa .here g1) ?_
    refine D.nil [(17, fun _ => .cells g (ic (lay.set (lx S K).1 (lx lay (lx S K).2))))] (fun X => ?_) (hchk := (by show chkDD _ _ 1 [17] = true; decide +kernel))
    refine go ?_
    refine GoL.sa (b := g) (l := lay.set (lx S K).1 (lx lay (lx S K).2)) (i := (lx S K).2) (z := lx lay (lx S K).1) .here (by rw [List.length_set]; exact g2) ?_
    rw [show (lay.set (lx S K).1 (lx lay (lx S K).2)).set (lx S K).2 (lx lay (lx S K).1) = exch lay (lx S K).1 (lx S K).2 from rfl, f4'.out]
    refine go ?_
    exact go_again (m', exch lay (lx S K).1 (lx S K).2) ⟨hm'.out, hG.exch (by omega) (by omega), by simp only; omega⟩ (by simp only; omega) (by simp [AgreeL, At]) sb
end

section
set_option linter.all false
set_option pp.maxSteps 100000
set_option maxRecDepth 100000
set_option maxHeartbeats 4000000
open Go.RowKit

theorem outO1_v (b : Nat) (hi n : Int) (w : World) (hc : Cells w b [.int .i64 hi]) : Calls Tryz.prog 118 #[.int .i64 n, .pointer (some ⟨b, 0, none⟩)] w (fun e w' => e = .returned (.bool (decide (outP n 0 hi))) ∧ Below w.heap.size w w') := by
  refine go_in Tryz.func118 rfl Tryz.ntmps118 [] [] (Mem.start _) ?_
  refine go ?_
  refine GoL.sp (fun h => ?_) (fun h => ?_) <;> refine go ?_ <;> refine ev1 ?_
  · simp [outP, h]
  · simp [outP, Int.not_lt.2 h]
theorem callOut (args : Array Value) (w : World) : (callFunc 118 args).run Tryz.prog w = .ok (.enter 118 args) w := by go_simp
theorem outO_v (hi : Int) (l : List Int) (a : Option Addr) (c : Nat) (w : World) (hl : Rd icell 1 w a l) (hn : l.length ≤ 9223372036854775807) : Calls Tryz.prog 81 #[.int .i64 hi, .slice a l.length c] w (fun e w' => e = .returned (.bool (l.any fun n => decide (outP n 0 hi))) ∧ Below w.heap.size w w') := by
  refine go_in Tryz.func81 rfl Tryz.ntmps81 [] [] (Mem.start _) ?_
  refine go ?_
  refine GoL.a (fun b2 => ?_)
  refine go ?_
  refine GoL.cv (fun w' hw => containsFunc_v 118 _ (fun n => decide (outP n 0 hi)) l _ _ w' (hw.old hl) hn callOut (fun x hx w2 hb => outO1_v b2 hi x w2 ((hw.cells (b := b2) (l := [.int .i64 hi]) pk).at hb))) ?_
  refine go ?_
  exact ev1 rfl
theorem pack_v (a x : Int) (ha : 0 ≤ a ∧ a ≤ 1000000000) (hx : 0 ≤ x ∧ x ≤ 127) (w : World) : Calls Tryz.prog 116 #[.int .i64 a, .int .i64 x] w (fun e w' => e = .returned (.int .i64 (a * 128 + x)) ∧ Below w.heap.size w w') := by
  refine go_in Tryz.func116 rfl Tryz.ntmps116 [] [] (Mem.start _) ?_
  refine go ?_
  refine ev1 ?_
  refine congrArg _ ?_
  exact bits_join .i64 62 (by decide) (fun n h0 h1 => IntWalk.i64_in _ (by omega)) 7 (a * 128) x (by omega) (by omega) (by omega) hx.1 (by omega) (by omega)
/-- the word of an order -/
def encI (op fr tt nx : Int) : Int := ((op * 128 + fr) * 128 + tt) * 128 + nx
theorem strange_v (op fr tt nx : Int) (h : (0 ≤ op ∧ op ≤ 7) ∧ (0 ≤ fr ∧ fr ≤ 127) ∧ (0 ≤ tt ∧ tt ≤ 127) ∧ 0 ≤ nx ∧ nx ≤ 127) (w : World) : Calls Tryz.prog 115 #[.agg #[.int .i64 op, .int .i64 fr, .int .i64 tt, .int .i64 nx]] w (fun e w' => e = .returned (.bool false) ∧ Below w.heap.size w w') := by
  refine go_in Tryz.func115 rfl Tryz.ntmps115 [] [] (Mem.start _) ?_
  refine go ?_
  refine GoL.a (fun b1 => ?_)
  refine go ?_
  refine GoL.sl (Ef.lit (f := icell) (m := 1) (e := 3) [op] (fun _ => rfl) rfl) (fun a5 c5 => ?_)
  refine go ?_
  refine GoL.cv (v := .bool false) (fun w' hw => (outO_v 7 [op] a5 c5 w' (hw.ownRd pk) (by simp)).mono fun e w2 ⟨h1, h2⟩ => ⟨by rw [h1]; simp [outP, Int.not_lt.2 h.1.1, Int.not_lt.2 h.1.2], h2⟩) ?_
  refine go ?_
  refine GoL.sl (Ef.lit (f := icell) (m := 1) (e := 3) [fr, tt, nx] (fun _ => rfl) rfl) (fun a6 c6 => ?_)
  refine go ?_
  refine GoL.cv (v := .bool false) (fun w' hw => (outO_v 127 [fr, tt, nx] a6 c6 w' (hw.ownRd pk) (by simp)).mono fun e w2 ⟨h1, h2⟩ => ⟨by rw [h1]; simp [outP, Int.not_lt.2 h.2.1.1, Int.not_lt.2 h.2.1.2, Int.not_lt.2 h.2.2.1.1, Int.not_lt.2 h.2.2.1.2, Int.not_lt.2 h.2.2.2.1, Int.not_lt.2 h.2.2.2.2], h2⟩) ?_
  refine go ?_
  exact ev1 rfl
theorem Encode_v (op fr tt nx : Int) (h : (0 ≤ op ∧ op ≤ 7) ∧ (0 ≤ fr ∧ fr ≤ 127) ∧ (0 ≤ tt ∧ tt ≤ 127) ∧ 0 ≤ nx ∧ nx ≤ 127) (w : World) : Calls Tryz.prog 75 #[.agg #[.int .i64 op, .int .i64 fr, .int .i64 tt, .int .i64 nx]] w (fun e w' => e = .returned (.tuple #[.int .i64 (encI op fr tt nx), .int .i64 0]) ∧ Below w.heap.size w w') := by
  refine go_in Tryz.func75 rfl Tryz.ntmps75 [] [] (Mem.start _) ?_
  refine go ?_
  refine GoL.a (fun b1 => ?_)
  refine go ?_
  refine GoL.cv (fun w' hw => strange_v op fr tt nx h w') ?_
  refine go ?_
  refine D.cv (fun F w' hw => pack_v op fr (by omega) (by omega) w') ?_
  refine go ?_
  refine D.cv (fun F w' hw => pack_v (op * 128 + fr) tt (by omega) (by omega) w') ?_
  refine go ?_
  refine GoL.cv (fun w' hw => pack_v ((op * 128 + fr) * 128 + tt) nx (by omega) (by omega) w') ?_
  refine go ?_
  exact ev2 ⟨rfl, rfl⟩
theorem LayS_v (n : Int) (w : World) : Calls Tryz.prog 73 #[.int .i64 n] w (fun e w' => e = .returned (.bool (decide (outP n 0 16777215))) ∧ Below w.heap.size w w') := by
  refine go_in Tryz.func73 rfl Tryz.ntmps73 [] [] (Mem.start _) ?_
  refine go ?_
  refine GoL.cv (fun w' hw => out_v _ _ _ w') ?_
  refine go ?_
  exact ev1 rfl
end

section
set_option linter.all false
set_option pp.maxSteps 100000
set_option maxRecDepth 100000
set_option maxHeartbeats 4000000
open Go.RowKit

theorem indexFunc0_v (f : FuncId) (p : Int → Bool) (l : List Int) (a : Option Addr) (c : Nat) (w : World) (hl : Rd icell 1 w a l) (hn : l.length ≤ 9223372036854775807) (eg : ∀ args w, (callFunc f args).run Tryz.prog w = .ok (.enter f args) w)
    (hf : ∀ x ∈ l, ∀ w', Below w.heap.size w w' → Calls Tryz.prog f #[.int .i64 x] w' (fun e w'' => e = .returned (.bool (p x)) ∧ Below w'.heap.size w' w'')) :
    Calls Tryz.prog 111 #[.slice a l.length c, .func (.func f) #[] #[]] w (fun e w' => ∃ i : Int, e = .returned (.int .i64 i) ∧ Below w.heap.size w w' ∧ (0 ≤ i ↔ l.any p = true)) := by
  refine go_in Tryz.func111 rfl Tryz.ntmps111 [] [] (Mem.start _) ?_
  refine go ?_
  refine go_loop (X := Nat) (fun i => i ≤ l.length ∧ ∀ j, j < i → p (lx l j) = false) (fun i => l.length - i) (fun i => [(8, .int .i64 i)]) (fun _ => []) 0 [0, 1, 7] ⟨Nat.zero_le _, fun j hj => by omega⟩ ⟨fun g => rfl, trivial⟩ sb (fun i hi => ?_)
  refine go ?_
  refine go_if (fun h => ?_) (fun h => ?_)
  · refine go ?_
    refine GoL.cv (fun w' hw => hf _ (lx_mem (by omega)) w' hw.below) ?_
    refine go ?_
    refine go_if (fun h2 => ?_) (fun h2 => ?_)
    · refine go ?_
      refine end1 (fun w' hw => ⟨_, rfl, hw.below, ?_⟩)
      exact ⟨fun _ => List.any_eq_true.2 ⟨_, lx_mem (by omega), h2⟩, fun _ => by omega⟩
    · refine go ?_
      refine go_again (i + 1) ⟨by omega, fun j hj => ?_⟩ (by omega) ⟨fun g => rfl, fun g => rfl, fun g => rfl, fun g => rfl, trivial⟩ sb
      rcases Nat.lt_or_ge j i with h3 | h3
      · exact hi.2 j h3
      · obtain rfl : j = i := by omega
        exact h2
  · refine go ?_
    refine end1 (fun w' hw => ⟨_, rfl, hw.below, ?_⟩)
    refine ⟨fun h => by omega, fun hx => ?_⟩
    obtain ⟨x, hx, e⟩ := List.any_eq_true.1 hx
    obtain ⟨j, hj, rfl⟩ := List.mem_iff_getElem.1 hx
    have := hi.2 j (by omega)
    rw [lx_eq hj, e] at this; cases this
theorem containsFunc0_v (f : FuncId) (p : Int → Bool) (l : List Int) (a : Option Addr) (c : Nat) (w : World) (hl : Rd icell 1 w a l) (hn : l.length ≤ 9223372036854775807) (eg : ∀ args w, (callFunc f args).run Tryz.prog w = .ok (.enter f args) w)
    (hf : ∀ x ∈ l, ∀ w', Below w.heap.size w w' → Calls Tryz.prog f #[.int .i64 x] w' (fun e w'' => e = .returned (.bool (p x)) ∧ Below w'.heap.size w' w'')) :
    Calls Tryz.prog 72 #[.slice a l.length c, .func (.func f) #[] #[]] w (fun e w' => e = .returned (.bool (l.any p)) ∧ Below w.heap.size w w') := by
  refine go_in Tryz.func72 rfl Tryz.ntmps72 [] [] (Mem.start _) ?_
  refine go ?_
  refine GoL.cx (fun w' hw => indexFunc0_v f p l a c w' (hw.old hl) hn eg (fun x hx w2 hb => hf x hx w2 ((hw.below).trans (hb.mono hw.below.size)))) (fun i hi => ?_)
  refine go ?_
  refine ev1 ?_
  refine congrArg Value.bool ?_
  rw [Bool.eq_iff_iff, decide_eq_true_eq, List.any_eq_true]

section
variable {w0 : World} {Bs : List Nat} {P : Program} {n : Nat} {L : List (Nat × Value)} {H H' : List En} {ops : Array Oper} {K : (Nat → Value) → World → Prop} {os : List Oper} {u v : Value} {d : Nat} {T ty : TypeId} {pos : String} {af : Array Edge} {gd : Option (Nat × Bool)} {x y : Operand}
/-- a new list of zeros, by its value -/
def En.mk0 (k : Nat) (v : Value) : En := .ex fun b : Nat => .star [.pure (v = .slice (some ⟨b, 0, none⟩) k k), .cells b (ic (List.replicate k 0))]
theorem Ef.mks {t e : TypeId} {k : Nat} (het : ElemT P t e 1 8) (hz : ∀ i, P.info? e = some i → i.zero = some (.int .i64 0)) (hk : k ≤ 100000)
    (hx : ∀ g, evF n (tab L g) x = .int .i64 k := by intro g; simp only [evF_tmp, evF_const, tab_cons, Nat.reduceLT, Nat.reduceEqDiff, ↓reduceIte]; (try rfl)) (hy : ∀ g, evF n (tab L g) y = .int .i64 k := by intro g; simp only [evF_tmp, evF_const, tab_cons, Nat.reduceLT, Nat.reduceEqDiff, ↓reduceIte]; (try rfl)) : Ef w0 Bs P n ⟨some d, .makeSlice t x y, ty, pos, af, none⟩ L H (.mk0 k) H := fun g w hw => by
    obtain ⟨i, z, hi, hzz, hs, hb, hzs⟩ := het.he
    have hz0 := hz i hi
    rw [hz0] at hzz
    cases hzz
    obtain ⟨w', h1, h2, h3⟩ := run_make_full (P := P) (w := w) w.heap.size t e i (.int .i64 0) 1 het.ht hi hz0 hs .i64 .i64 k (by rw [hb]; omega) (by unfold maxLen; omega) (Nat.le_refl _)
    have hm : (madeCells (Value.int .i64 0).cells (k * 1)).toList = (List.replicate k (0 : Int)).flatMap (fun x => [Value.int .i64 x]) := by
      rw [ic_flat, Nat.mul_one]
      simp [madeCells, ic, Value.cells]
      apply List.ext_getElem (by simp)
      intro j h1 h2
      simp [Nat.mod_one]
    have ho : Own (fun x => [Value.int .i64 x]) 1 e w.heap.size w' (.slice (some ⟨w.heap.size, 0, none⟩) k k) (List.replicate k (0 : Int)) := Own.of (n := k) (by simp) hm h2
    have hmem : Mem w0 Bs (.own (fun x => [Value.int .i64 x]) 1 e (.slice (some ⟨w.heap.size, 0, none⟩) k k) (List.replicate k (0 : Int)) :: H) w' := hw.newOwn h3 (fun k hk => by simp [Value.ownBlock] at hk; omega) (ho.base (Nat.zero_le _))
    unfold opF
    have : (execOp (evF n (tab L g)) ⟨some d, .makeSlice t x y, ty, pos, af, none⟩).run P w = .ok (.value (.slice (some ⟨w.heap.size, 0, none⟩) k k)) w' := by
      simp only [execOp, hx g, hy g, Sem.run_bind, h1, Result.andThen_ok, Sem.run_pure]
    rw [this]
    exact Mem.exI w.heap.size (Mem.starI (A := [_, _]) (Mem.pureI rfl (hmem.o2c rfl .here)))
theorem GoL.mk0 {k : Nat} (hr : ∀ b, v = .slice (some ⟨b, 0, none⟩) k k → GoL w0 Bs P ops n K os L (.cells b (ic (List.replicate k 0)) :: H)) : GoL w0 Bs P ops n K os L (.mk0 k v :: H) := .mk fun g w hw => by
  obtain ⟨b, h1⟩ := Mem.exs hw
  obtain ⟨h2, h3⟩ := (Mem.flat h1).pures
  exact (hr b h2).go g w h3
theorem GoL.ptr {l : List Value} (hr : ∀ b, v = .pointer (some ⟨b, 0, none⟩) → GoL w0 Bs P ops n K os L (.cells b l :: H)) : GoL w0 Bs P ops n K os L (.ptr v l :: H) := .mk fun g w hw => by
  obtain ⟨b, h1, h2⟩ := hw.ptrE
  exact (hr b h1).go g w h2
end

/-- the words of the data, as they are laid -/
def putW (dat ws : List Int) : Nat → List Int
  | 0 => List.replicate 128 0
  | k + 1 => (putW dat ws k).set (lx dat k).toNat (lx ws k)
/-- the word of an order of a task -/
def ordW (lay dat : List Int) (o : LOrd) : Int :=
  encI o.op (if fromB o.op = true then lx dat o.fr.toNat else 0) (if o.op = 5 then lx lay o.tt.toNat else if toB o.op = true then lx dat o.tt.toNat else 0) (if o.op = 0 then 0 else lx lay o.nx.toNat)
def putO (os : List LOrd) (lay dat S : List Int) : Nat → List Int
  | 0 => S
  | k + 1 => (putO os lay dat S k).set (lx lay k).toNat (ordW lay dat (lx os k))
def layW (t : TD) (lay ws : List Int) : List Int := putO t.os lay (lay.drop t.os.length) (putW (lay.drop t.os.length) ws ws.length) t.os.length
/-- the error of words of a layout of a task -/
def layF (t : TD) (lay ws : List Int) : Int :=
  if ¬ (chkL t).2.2 = 0 then (chkL t).2.2 else if ¬ layL t lay = 0 then layL t lay else if ¬ (ws.length : Int) = t.data then 3 else if ws.any (fun n => decide (outP n 0 16777215)) = true then 7 else 0
theorem putW_len (dat ws : List Int) : ∀ k, (putW dat ws k).length = 128
  | 0 => by simp [putW]
  | k + 1 => by rw [putW, List.length_set, putW_len]
theorem putO_len (os : List LOrd) (lay dat S : List Int) (hS : S.length = 128) : ∀ k, (putO os lay dat S k).length = 128
  | 0 => hS
  | k + 1 => by rw [putO, List.length_set, putO_len os lay dat S hS]
theorem callLayS (args : Array Value) (w : World) : (callFunc 73 args).run Tryz.prog w = .ok (.enter 73 args) w := by go_simp
theorem Lay_bad (t : TD) (lay ws : List Int) (al aw : Option Addr) (cl cw : Nat) (w : World) (hn : t.Len) (hT : t.At w) (hl : Rd icell 1 w al lay) (hll : lay.length ≤ 9223372036854775807 ∧ lay.length ≤ cl) (hw : Rd icell 1 w aw ws) (hwl : ws.length ≤ 9223372036854775807) (he : ¬ layF t lay ws = 0) :
    Calls Tryz.prog 26 #[.agg #[.slice t.ao t.os.length t.co, .int .i64 t.data, .int .i64 t.lines, .slice t.ap t.ps.length t.cp], .slice al lay.length cl, .slice aw ws.length cw] w (fun e w' => e = .returned (.tuple #[.slice none 0 0, .int .i64 (layF t lay ws)]) ∧ Below w.heap.size w w') := by
  obtain ⟨⟨p, i, e⟩, hr⟩ : ∃ q : Int × Int × Int, q = chkL t := ⟨_, rfl⟩
  refine go_in Tryz.func26 rfl Tryz.ntmps26 [] [] (Mem.start _) ?_
  refine go ?_
  refine GoL.a (fun b1 => ?_)
  refine go ?_
  by_cases he2 : e = 0
  · subst he2
    refine GoL.c (fun w' hw => open_ok t p i w' hn (hT.old hw) hr.symm) (fun x => ?_)
    obtain ⟨x, b⟩ := x
    refine GoL.pure (fun hx => ?_)
    dsimp only at hx ⊢
    obtain ⟨rfl, h1, h2⟩ := hx
    have hok := plan_ok (chkL_ok hr.symm) h1 h2
    have hF : layF x.t lay ws = if ¬ layL x.t lay = 0 then layL x.t lay else if ¬ (ws.length : Int) = x.t.data then 3 else if ws.any (fun n => decide (outP n 0 16777215)) = true then 7 else 0 := by rw [layF, ← hr, if_neg (by simp)]
    refine go ?_
    refine GoL.cv (fun w' hw => pcheck_v x b lay al cl w' (hw.plan pk (hT.old hw)) hok (hw.old hl) hll) ?_
    rw [show layE x.n x.t.lines lay = layL x.t lay from rfl]
    have HF := hid hF
    clear hF
    refine go ?_
    refine go_if (fun h => ?_) (fun h => ?_)
    · refine go ?_
      refine ev2 ?_
      rw [HF.out, if_pos h]; exact ⟨rfl, rfl⟩
    refine go ?_
    refine go_if (fun h3 => ?_) (fun h3 => ?_)
    · refine go ?_
      refine ev2 ?_
      rw [HF.out, if_neg (by simpa using h), if_pos (by simpa using h3)]; exact ⟨rfl, rfl⟩
    refine go ?_
    refine GoL.cv (fun w' hw2 => containsFunc0_v 73 (fun n => decide (outP n 0 16777215)) ws aw cw w' (hw2.old hw) hwl callLayS (fun x hx w2 hb => LayS_v x w2)) ?_
    refine go ?_
    refine go_if (fun h4 => ?_) (fun h4 => ?_)
    · refine go ?_
      refine ev2 ?_
      rw [HF.out, if_neg (by simpa using h), if_neg (by simpa using h3), if_pos h4]; exact ⟨rfl, rfl⟩
    · exact absurd (by rw [HF.out, if_neg (by simpa using h), if_neg (by simpa using h3), if_neg (by simpa using h4)]) he
  · have hF : layF t lay ws = e := by rw [layF, ← hr, if_pos he2]
    rw [hF]
    clear hF
    refine GoL.cv (fun w' hw => open_bad t p i e w' hn (hT.old hw) hr.symm he2) ?_
    refine go ?_
    refine go_if (fun h => ?_) (fun h => ?_)
    rotate_left
    · exact absurd h he2
    refine go ?_
    exact ev2 ⟨rfl, rfl⟩
end

section
set_option linter.all false
set_option pp.maxSteps 100000
set_option maxRecDepth 100000
set_option maxHeartbeats 4000000
open Go.RowKit

theorem layF_ok {t : TD} {lay ws : List Int} (h : layF t lay ws = 0) : (chkL t).2.2 = 0 ∧ layL t lay = 0 ∧ (ws.length : Int) = t.data ∧ ∀ n ∈ ws, 0 ≤ n ∧ n ≤ 16777215 := by
  unfold layF at h
  split at h
  · rename_i h1; exact absurd h h1
  split at h
  · rename_i _ h1; exact absurd h h1
  split at h
  · cases h
  split at h
  · cases h
  rename_i h1 h2 h3 h4
  refine ⟨by simpa using h1, by simpa using h2, by simpa using h3, fun n hn => ?_⟩
  have h5 : ws.any (fun n => decide (outP n 0 16777215)) = false := by simpa using h4
  rw [List.any_eq_false] at h5
  have h6 := h5 n hn
  have h7 : ¬ outP n 0 16777215 := by simpa using h6
  unfold outP at h7
  omega
/-- a value that what stands in L gives -/
theorem Ef.pq {w0 : World} {Bs : List Nat} {P : Program} {n : Nat} {L : List (Nat × Value)} {H : List En} {u : Value} {d : Nat} {op : Op} {ty : TypeId} {pos : String} {af : Array Edge} {gd : Option (Nat × Bool)} (hq : isVC op = false := by rfl) (h : ∀ g w (R : Result Next → Prop), R (.ok (.value u) w) → R ((execOp (evF n (tab L g)) ⟨some d, op, ty, pos, af, gd⟩).run P w) := by intro g w R hR; go_simp; exact hR) :
    Ef w0 Bs P n ⟨some d, op, ty, pos, af, gd⟩ L H (fun v => .pure (v = u)) H := fun g w hw => by
  unfold opF
  have : (execOp (evF n (tab L g)) ⟨some d, op, ty, pos, af, gd⟩).run P w = .ok (.value u) w := h g w (fun r => r = .ok (.value u) w) rfl
  rw [this]
  exact Mem.pureI rfl hw
/-- the values while leads are followed -/
def wTo (lay : List Int) (o : LOrd) (z : Int) (k : Nat) : Int := if 2 ≤ k then lx lay (lx (leadsL o) 1).toNat else z
def wNx (lay : List Int) (o : LOrd) (k : Nat) : Int := if 1 ≤ k then lx lay (lx (leadsL o) 0).toNat else 0
theorem ordW_eq (lay dat : List Int) (o : LOrd) : ordW lay dat o = encI o.op (if fromB o.op = true then lx dat o.fr.toNat else 0) (wTo lay o (if toB o.op = true then lx dat o.tt.toNat else 0) (leadsL o).length) (wNx lay o (leadsL o).length) := by
  unfold ordW wTo wNx leadsL
  by_cases h0 : o.op = 0
  · simp [h0, toB]
  · by_cases h5 : o.op = 5
    · simp [h5, toB, lx]
    · simp [h0, h5, lx]
theorem Lay_ok (t : TD) (lay ws : List Int) (al aw : Option Addr) (cl cw : Nat) (w : World) (hn : t.Len) (hT : t.At w) (hl : Rd icell 1 w al lay) (hll : lay.length ≤ 9223372036854775807 ∧ lay.length ≤ cl) (hw : Rd icell 1 w aw ws) (he : layF t lay ws = 0) :
    Calls Tryz.prog 26 #[.agg #[.slice t.ao t.os.length t.co, .int .i64 t.data, .int .i64 t.lines, .slice t.ap t.ps.length t.cp], .slice al lay.length cl, .slice aw ws.length cw] w (Ret (fun g : Nat => .tuple #[.slice (some ⟨g, 0, none⟩) 128 128, .int .i64 0]) (fun g => [.cells g (ic (layW t lay ws))]) w) := by
  obtain ⟨⟨p, i, e⟩, hr⟩ : ∃ q : Int × Int × Int, q = chkL t := ⟨_, rfl⟩
  obtain ⟨e1, e2, e3, e4⟩ := layF_ok he
  rw [← hr] at e1
  dsimp only at e1
  subst e1
  refine go_in Tryz.func26 rfl Tryz.ntmps26 [] [] (Mem.start _) ?_
  refine go ?_
  refine GoL.a (fun b1 => ?_)
  refine go ?_
  refine GoL.c (fun w' hw => open_ok t p i w' hn (hT.old hw) hr.symm) (fun x => ?_)
  obtain ⟨x, b⟩ := x
  refine GoL.pure (fun hx => ?_)
  dsimp only at hx ⊢
  obtain ⟨rfl, h1, h2⟩ := hx
  have htok := chkL_ok hr.symm
  have hok := plan_ok htok h1 h2
  have hl0 : layE x.n x.t.lines lay = 0 := e2
  have hL := hid (layE_ok hl0)
  have htok2 := hid htok
  have hto := hT.o
  have hd1 := htok.d1
  have hl1 := htok.l1
  have hw17 : ws.length ≤ 16 := by omega
  refine go ?_
  refine GoL.cv (fun w' hw => pcheck_v x b lay al cl w' (hw.plan pk (hT.old hw)) hok (hw.old hl) hll) ?_
  rw [hl0]
  have e3' := hid e3
  clear hl0 e2 e3 he hok htok
  refine go ?_
  refine go_if (fun h => ?_) (fun h => ?_)
  · exact absurd h (by have := e3'.out; omega)
  refine go ?_
  refine GoL.cv (fun w' hw2 => containsFunc0_v 73 (fun n => decide (outP n 0 16777215)) ws aw cw w' (hw2.old hw) (by omega) callLayS (fun x hx w2 hb => LayS_v x w2)) ?_
  have e5 : ws.any (fun n => decide (outP n 0 16777215)) = false := by
    rw [List.any_eq_false]; intro n hn; have := e4 n hn; simpa using (show ¬ outP n 0 16777215 by unfold outP; omega)
  rw [e5]
  have e4' := hid e4
  clear e5 e4
  refine go ?_
  refine D.e0 [] [] (fun X F => Ef.mks (k := 128) elI elI' (by omega)) ?_
  refine go ?_
  have hol : x.t.os.length ≤ lay.length := by have := hL.out.1; unfold PD.n at this; omega
  refine D.q ⟨_, fun X F => Ex.sl (l := lay) (k := x.t.os.length) (m := 1) (hi := Int.toNat_natCast _), ?_⟩
  have hdr := Rd.drop hl x.t.os.length hll.2
  have hdl : ((lay.drop x.t.os.length).length : Int) ≤ ws.length ∧ (ws.length : Int) ≤ (lay.drop x.t.os.length).length := by
    have h1 := hL.out.1; have h2 := e3'.out; rw [List.length_drop]; unfold PD.n at h1; omega
  have hdm : ∀ a ∈ lay.drop x.t.os.length, 0 ≤ a ∧ a < 128 := fun a ha => by have := hL.out.2.1 a (List.mem_of_mem_drop ha); omega
  have HR : Hid (layW x.t lay ws = putO x.t.os lay (lay.drop x.t.os.length) (putW (lay.drop x.t.os.length) ws ws.length) x.t.os.length) := hid rfl
  generalize lay.drop x.t.os.length = dat at hdr hdl hdm HR ⊢
  generalize sfA al x.t.os.length 1 cl = ad at hdr ⊢
  generalize cl - x.t.os.length = cd
  refine D.e (A := fun ds v => .pure (v = ds.headD undef)) [0] [] [] (fun X F => Ef.pq) ?_
  refine D.nil [(6, fun X => .pure (X 6 = X 0)), (0, fun X => .mk0 128 (X 0))] (fun X => GoL.pure fun hX6 => GoL.mk0 fun g hX => ?_) (hchk := (by show chkDD _ _ 0 [6, 0] = true; decide +kernel))
  rw [hX6, hX]
  clear hX hX6 X
  refine go ?_
  refine go_loop (X := Nat) (fun k => k ≤ ws.length) (fun k => ws.length - k) (fun k => [(52, .int .i64 k)]) (fun k => [.cells g (ic (putW dat ws k)), .cells b1 [.slice x.t.ao x.t.os.length x.t.co, .int .i64 x.t.data, .int .i64 x.t.lines, .slice x.t.ap x.t.ps.length x.t.cp]]) 0 [1, 3, 10, 11, 50, 51] (Nat.zero_le _) (by simp [AgreeL, At]) sb (fun k hk => ?_)
  have HPL := hid (putW_len dat ws k)
  refine go ?_
  refine go_if (fun h => ?_) (fun h => ?_)
  · have hkw : k < ws.length := by omega
    have hkd : (k : Int) < (dat.length : Int) := by omega
    have hkb := hdm _ (lx_mem (l := dat) (i := k) (by omega))
    refine go ?_
    refine GoL.sa (b := g) (l := putW dat ws k) (i := (lx dat k).toNat) (z := lx ws k) rp (by have := HPL.out; omega) ?_
    refine go ?_
    exact go_again (k + 1) hkw (by omega) (by simp [AgreeL, At]) sb
  obtain rfl : k = ws.length := by omega
  generalize putW dat ws ws.length = S0 at HPL HR ⊢
  refine go ?_
  refine go_loop (X := Nat) (fun i => i ≤ x.t.os.length) (fun i => x.t.os.length - i) (fun i => [(68, .int .i64 i)]) (fun i => [.cells g (ic (putO x.t.os lay dat S0 i))]) 0 [1, 10, 11, 66, 67] (Nat.zero_le _) (by simp [AgreeL, At]) sb (fun i hi => ?_)
  have HOL := hid (putO_len x.t.os lay dat S0 HPL.out i)
  refine go ?_
  refine go_if (fun h => ?_) (fun h => ?_)
  rotate_left
  · obtain rfl : i = x.t.os.length := by omega
    refine go ?_
    exact end2 (fun w' hw => ⟨g, rfl, by rw [HR.out]; exact hw.done sb⟩)
  have hi2 : i < x.t.os.length := by omega
  have hodd := oddL_ok (htok2.out.o _ (lx_mem (l := x.t.os) hi2))
  have hlb : 0 ≤ lx lay i ∧ lx lay i < 128 := by have := hL.out.2.1 _ (lx_mem (l := lay) (i := i) (by omega)); omega
  have HPO : Hid (putO x.t.os lay dat S0 (i + 1) = (putO x.t.os lay dat S0 i).set (lx lay i).toNat (ordW lay dat (lx x.t.os i))) := hid rfl
  rw [ordW_eq] at HPO
  generalize putO x.t.os lay dat S0 i = S at HOL HPO ⊢
  refine go ?_
  generalize lx x.t.os i = o at hodd HPO ⊢
  refine GoL.a (fun b15 => ?_)
  refine go ?_
  refine D.cv (fun F w' hw => uses_v w') ?_
  refine go ?_
  refine D.q ⟨_, fun X F => Ex.use hodd.1 (fun g => rfl) (fun g => rfl), ?_⟩
  refine D.al ?_
  refine D.al ?_
  refine D.s (A := fun dp _ => .ptr (dp.headD undef) [.int .i64 o.op, .int .i64 0, .int .i64 0, .int .i64 0]) [7] [] [7] (fun X F => Ef.st (off := 0) Pick.here (hl := rfl)) ?_
  refine D.nil [(9, fun X => .ptr (X 7) [.int .i64 o.op, .int .i64 0, .int .i64 0, .int .i64 0]), (8, fun X => .ptr (X 8) [.bool false, .bool false, .bool false, .nilFunc])] (fun X => GoL.ptr fun b16 hX6 => ?_) (hchk := (by show chkDD _ _ 0 [9, 8] = true; decide +kernel))
  refine GoL.mem (H' := .ptr (X 8) [.bool false, .bool false, .bool false, .nilFunc] :: [.cells b16 [.int .i64 o.op, .int .i64 0, .int .i64 0, .int .i64 0], .cells g (ic S), .cells b15 [.int .i64 o.op, .int .i64 o.fr, .int .i64 o.tt, .int .i64 o.nx]]) (fun w hw => hw.sub sb) ?_
  refine GoL.ptr fun b17 hX => ?_
  rw [hX6, hX]
  clear hX hX6 X
  refine GoL.st ⟨b17, 0, _, _, [.bool (fromB o.op), .bool (toB o.op), .bool (twB o.op), .func (.func (leadN o.op)) #[] #[]], 4, .agg #[.bool (fromB o.op), .bool (toB o.op), .bool (twB o.op), .func (.func (leadN o.op)) #[] #[]], _, fun g => rfl, fun g => rfl, rfl, (by intro w R hR; go_simp; exact hR), rfl, Rep.here, rfl, (by simp [Value.oneCell']), (by simp), ?_⟩
  simp only [setLs, List.set_cons_zero, List.set_cons_succ, Nat.reduceAdd]
  obtain ⟨hop, hfr, htt, hld⟩ := hodd
  have hcl := leadN_call o.op
  have hde := e3'.out
  have hdw : x.t.data ≤ (dat.length : Int) := by omega
  clear hde
  refine go ?_
  refine go_join2 [(1, .slice al lay.length cl), (10, .slice (some ⟨g, 0, none⟩) 128 128), (11, .slice ad dat.length cd), (14, .int .i64 i), (15, .pointer (some ⟨b15, 0, none⟩)), (16, .pointer (some ⟨b16, 0, none⟩)), (17, .pointer (some ⟨b17, 0, none⟩)), (66, .slice x.t.ao x.t.os.length x.t.co), (67, .int .i64 x.t.os.length), (68, .int .i64 i)] [.cells b17 [.bool (fromB o.op), .bool (toB o.op), .bool (twB o.op), .func (.func (leadN o.op)) #[] #[]], .cells b16 [.int .i64 o.op, .int .i64 (if fromB o.op = true then lx dat o.fr.toNat else 0), .int .i64 0, .int .i64 0], .cells g (ic S), .cells b15 [.int .i64 o.op, .int .i64 o.fr, .int .i64 o.tt, .int .i64 o.nx]] ?_ ?_
  · refine go_if (fun h1 => ?_) (fun h1 => ?_)
    · have h2 := hfr h1
      have h3 := hdm _ (lx_mem (l := dat) (i := o.fr.toNat) (by omega))
      rw [if_pos h1]
      refine go ?_
      exact xj_n (by simp [AgreeL, At]) sb
    · rw [if_neg (by simpa using h1)]
      refine go ?_
      exact xj_n (by simp [AgreeL, At]) sb
  have bvf : 0 ≤ (if fromB o.op = true then lx dat o.fr.toNat else 0) ∧ (if fromB o.op = true then lx dat o.fr.toNat else 0) ≤ 127 := by
    split
    · rename_i h1
      have h2 := hfr h1
      have := hdm _ (lx_mem (l := dat) (i := o.fr.toNat) (by omega)); omega
    · omega
  generalize (if fromB o.op = true then lx dat o.fr.toNat else 0) = vf at HPO bvf ⊢
  refine go ?_
  refine go_join2 [(1, .slice al lay.length cl), (10, .slice (some ⟨g, 0, none⟩) 128 128), (11, .slice ad dat.length cd), (14, .int .i64 i), (15, .pointer (some ⟨b15, 0, none⟩)), (16, .pointer (some ⟨b16, 0, none⟩)), (17, .pointer (some ⟨b17, 0, none⟩)), (66, .slice x.t.ao x.t.os.length x.t.co), (67, .int .i64 x.t.os.length), (68, .int .i64 i)] [.cells b17 [.bool (fromB o.op), .bool (toB o.op), .bool (twB o.op), .func (.func (leadN o.op)) #[] #[]], .cells b16 [.int .i64 o.op, .int .i64 vf, .int .i64 (if toB o.op = true then lx dat o.tt.toNat else 0), .int .i64 0], .cells g (ic S), .cells b15 [.int .i64 o.op, .int .i64 o.fr, .int .i64 o.tt, .int .i64 o.nx]] ?_ ?_
  · refine go_if (fun h1 => ?_) (fun h1 => ?_)
    · have h2 := htt h1
      have h3 := hdm _ (lx_mem (l := dat) (i := o.tt.toNat) (by omega))
      rw [if_pos h1]
      refine go ?_
      exact xj_n (by simp [AgreeL, At]) sb
    · rw [if_neg (by simpa using h1)]
      refine go ?_
      exact xj_n (by simp [AgreeL, At]) sb
  have bvt : 0 ≤ (if toB o.op = true then lx dat o.tt.toNat else 0) ∧ (if toB o.op = true then lx dat o.tt.toNat else 0) ≤ 127 := by
    split
    · rename_i h1
      have h2 := htt h1
      have := hdm _ (lx_mem (l := dat) (i := o.tt.toNat) (by omega)); omega
    · omega
  generalize (if toB o.op = true then lx dat o.tt.toNat else 0) = vt at HPO bvt ⊢
  refine go ?_
  refine GoL.c (fun w' hw => leads_v o w') (fun pp => ?_)
  obtain ⟨a99, c99⟩ := pp
  dsimp only
  refine go ?_
  have hll2 : (leadsL o).length ≤ 2 := by unfold leadsL; split; simp; split <;> simp
  refine go_loop (X := Nat) (fun k => k ≤ (leadsL o).length) (fun k => (leadsL o).length - k) (fun k => [(101, .int .i64 k)]) (fun k => [.rd icell 1 a99 (leadsL o), .cells b16 [.int .i64 o.op, .int .i64 vf, .int .i64 (wTo lay o vt k), .int .i64 (wNx lay o k)], .cells g (ic S)]) 0 [1, 10, 11, 14, 16, 66, 67, 68, 99, 100] (Nat.zero_le _) (by simp [AgreeL, At]) (by simp only [wTo, wNx, Nat.not_succ_le_zero, if_false]; exact sb) (fun k hk => ?_)
  refine go ?_
  refine go_if (fun h1 => ?_) (fun h1 => ?_)
  · have hk2 : k < (leadsL o).length := by omega
    have hlb2 := hld _ (lx_mem (l := leadsL o) hk2)
    refine go ?_
    refine go_if (fun h3 => ?_) (fun h3 => ?_)
    · have hk0 := hid h3
      clear h3
      refine go ?_
      rw [show wTo lay o vt k = wTo lay o vt (k + 1) by have := hk0.out; unfold wTo; rw [if_neg (by omega), if_neg (by omega)], show lx lay (lx (leadsL o) k).toNat = wNx lay o (k + 1) by have := hk0.out; obtain rfl : k = 0 := (by omega); rfl]
      exact go_again (k + 1) hk2 (by omega) (by simp [AgreeL, At]) sb
    · have hk0 := hid (show k = 1 by omega)
      clear h3
      refine go ?_
      rw [show wNx lay o k = wNx lay o (k + 1) by have := hk0.out; unfold wNx; rw [if_pos (by omega), if_pos (by omega)], show lx lay (lx (leadsL o) k).toNat = wTo lay o vt (k + 1) by have := hk0.out; obtain rfl : k = 1 := (by omega); rfl]
      exact go_again (k + 1) hk2 (by omega) (by simp [AgreeL, At]) sb
  obtain rfl : k = (leadsL o).length := by omega
  have hlay : ∀ z : Int, 0 ≤ z → z < (x.t.os.length : Int) → 0 ≤ lx lay z.toNat ∧ lx lay z.toNat ≤ 127 := fun z z0 z1 => by
    have := hL.out.2.1 _ (lx_mem (l := lay) (i := z.toNat) (by omega)); omega
  have bv2 : 0 ≤ wTo lay o vt (leadsL o).length ∧ wTo lay o vt (leadsL o).length ≤ 127 := by
    unfold wTo
    split
    · have := hld _ (lx_mem (l := leadsL o) (i := 1) (by omega)); exact hlay _ this.1 this.2
    · exact bvt
  have bvn : 0 ≤ wNx lay o (leadsL o).length ∧ wNx lay o (leadsL o).length ≤ 127 := by
    unfold wNx
    split
    · have := hld _ (lx_mem (l := leadsL o) (i := 0) (by omega)); exact hlay _ this.1 this.2
    · omega
  generalize wTo lay o vt (leadsL o).length = vt2 at HPO bv2 ⊢
  generalize wNx lay o (leadsL o).length = vn at HPO bvn ⊢
  have he1 := hL.out.1
  have hil : i < lay.length := by omega
  have hiz : (i : Int) < (lay.length : Int) := by omega
  clear he1
  refine go_exit ?_
  refine xt_e ?_
  refine xt_e ?_
  refine xb_e ?_
  refine xt_n ?_
  refine go_sub (K := [.cells g (ic S), .cells b16 [.int .i64 o.op, .int .i64 vf, .int .i64 vt2, .int .i64 vn]]) ?_ sb
  refine go_drw [.cells g (ic S)] [.cells b16 [.int .i64 o.op, .int .i64 vf, .int .i64 vt2, .int .i64 vn]] ?_
  refine go ?_
  refine D.cv (fun F w' hw => Encode_v o.op vf vt2 vn ⟨hop, bvf, bv2, bvn⟩ w') ?_
  refine go ?_
  refine D.s (A := fun _ _ => .cells g (ic (S.set (lx lay i).toNat (encI o.op vf vt2 vn)))) [] [] [12] (fun X F => Ef.sa .here (by have := HOL.out; omega)) ?_
  refine D.nil [(11, fun _ => .cells g (ic (S.set (lx lay i).toNat (encI o.op vf vt2 vn))))] (fun X => ?_) (hchk := (by show chkDD _ _ 1 [11] = true; decide +kernel))
  rw [← HPO.out]
  refine go ?_
  exact go_again (i + 1) hi2 (by omega) (by simp [AgreeL, At]) sb
end


end Go.Proofs.YtigehmghcafblaaGreat
