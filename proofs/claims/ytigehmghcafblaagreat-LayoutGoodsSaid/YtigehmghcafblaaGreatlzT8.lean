/- LayoutGoods: plain: Best of the reference. -/
import Derived.Test.YtigehmghcafblaaGreatlzR5
import Derived.Test.YtigehmghcafblaaGreatlzW21
import Derived.Test.YtigehmghcafblaaGreatlzW35
set_option linter.all false
namespace Go.Proofs.YtigehmghcafblaaGreat

section
set_option linter.all false
set_option pp.maxSteps 100000
set_option maxRecDepth 100000
set_option maxHeartbeats 4000000
open Go.RowKit

theorem Exch_v (lay : List Int) (al : Option Addr) (cl : Nat) (i k : Nat) (w : World) (hl : Rd icell 1 w al lay) (hll : lay.length ≤ 40) (hi : i < lay.length) (hk : k < lay.length) :
    Calls Tryz.prog 31 #[.slice al lay.length cl, .int .i64 i, .int .i64 k] w (Ret (fun q : Nat × Nat => .slice (some ⟨q.1, 0, none⟩) lay.length q.2) (fun q => [.pure (lay.length ≤ q.2), .cells q.1 (ic (exch lay i k))]) w) := by
  refine go_in Tryz.func31 rfl Tryz.ntmps31 [] [] (Mem.start _) ?_
  refine go ?_
  refine GoL.sl (Ef.lit (f := icell) (m := 1) (e := 3) [] (fun _ => rfl) rfl) (fun a3 c3 => ?_)
  refine GoL.q ⟨_, Ex.q, ?_⟩
  refine GoL.sl (Ef.app (f := icell) (l := []) (l2 := lay) (v := .slice a3 ([] : List Int).length c3) elI (fun _ => rfl) icell_one (by simp only [List.length_nil]; omega) pk (fun w hw => hw.old hl)) (fun a4 c4 => ?_)
  rw [List.nil_append]
  refine GoL.fact (p := ∃ g, a4 = some ⟨g, 0, none⟩) (fun w hw => own_some (hw.own (l := lay) pk) (by omega)) (fun hg => ?_)
  obtain ⟨g, rfl⟩ := hg
  refine GoL.fact (p := lay.length ≤ c4) (fun w hw => (hw.own (l := lay) pk).cap) (fun hc4 => ?_)
  refine GoL.mem (H' := [.cells g (ic lay)]) (fun w hw => (hw.o2c (f := icell) rfl .here).sub sb) ?_
  refine GoL.q ⟨_, Ex.q, ?_⟩
  refine go_nil ?_
  refine xt_n ?_
  refine go_seq ?_
  refine go_drw [.cells g (ic lay)] [] ?_
  refine go ?_
  refine D.s (A := fun _ _ => .cells g (ic (lay.set i (lx lay k)))) [] [] [16] (fun X F => Ef.sa .here hi) ?_
  refine D.nil [(13, fun _ => .cells g (ic (lay.set i (lx lay k))))] (fun X => ?_) (hchk := (by show chkDD _ _ 1 [13] = true; decide +kernel))
  refine go ?_
  refine GoL.sa (b := g) (l := lay.set i (lx lay k)) (i := k) (z := lx lay i) .here (by rw [List.length_set]; exact hk) ?_
  rw [show (lay.set i (lx lay k)).set k (lx lay i) = exch lay i k from rfl]
  refine go ?_
  exact end1 (fun w' hw => ⟨(g, c4), rfl, Mem.done (Mem.pureI hc4 hw) sb⟩)
theorem good_walk (t : TD) (x0 x1 : Int) (w : World) (hn : t.Len) (hT : t.At w) (b0 : 0 ≤ x0 ∧ x0 ≤ 255) (b1 : 0 ≤ x1 ∧ x1 ≤ 255) :
    Calls Tryz.prog 8 #[.agg #[.slice t.ao t.os.length t.co, .int .i64 t.data, .int .i64 t.lines, .slice t.ap t.ps.length t.cp], .agg #[.int .u8 x0, .int .u8 x1]] w (fun e w' => e = .returned (.bool true) ∧ Below w.heap.size w w') := by
  obtain ⟨⟨p, i, e⟩, hr⟩ : ∃ q : Int × Int × Int, q = chkL t := ⟨_, rfl⟩
  refine go_in Tryz.func8 rfl Tryz.ntmps8 [] [] (Mem.start _) ?_
  refine go ?_
  refine GoL.a (fun b2 => ?_)
  refine go ?_
  refine GoL.a (fun b3 => ?_)
  refine go ?_
  by_cases he : e = 0
  rotate_left
  · refine GoL.cv (fun w' hw => Good_bad t p i e w' hn (hT.old hw) hr.symm he) ?_
    have he2 : (e != 0) = true := by simpa using he
    refine go ?_
    refine GoL.cv (fun w' hw => awake_v w') ?_
    refine go ?_
    exact ev1 rfl
  subst he
  have ht := chkL_ok hr.symm
  have hR := hid hr
  clear hr
  obtain ⟨g1, g2, g3⟩ := good_res ht
  have hbb := bound_le ht (goodL t)
  have h40 : (goodL t).length ≤ 40 := by have := ht.n1; have := ht.d1; omega
  have hl0 : 0 < (goodL t).length := by have := ht.n1; omega
  have hlen := hid (show ((goodL t).length : Int) = (t.os.length : Int) + t.data by have := ht.d1; omega)
  have cG := hid (cost_ok ht g1)
  have g3' := fun a b ha hb => hid (g3 a b ha hb)
  clear g1 g2 g3
  generalize hgg : goodL t = G at *
  have hb9 : ¬ costL t G < boundN t := by omega
  refine GoL.c (fun w' hw => good_at t w' hn (hT.old hw) ht) (fun g => ?_)
  rw [hgg]
  refine go ?_
  refine GoL.cv (fun w' hw => valid_v t p i 0 w' (hT.old hw) hn hR.out.symm) ?_
  refine go ?_
  refine GoL.cv (fun w' hw => cost_at t G _ _ w' hn (hT.old hw) (rdC (hw.cells pk)) ⟨by omega, Nat.le_refl _⟩ cG.out) ?_
  refine go ?_
  refine GoL.c (fun w' hw => Bound_ok t p i w' hn (hT.old hw) hR.out.symm) (fun r => ?_)
  refine go ?_
  refine GoL.cv (fun w' hw => items_ref t w' hn ht.d1 ht.n1.2) ?_
  rw [← hlen.out]
  refine go ?_
  have hGi : (0 : Int) < G.length := by omega
  have hne := hid (show ¬ G = [] from fun e => by rw [e] at hl0; exact absurd hl0 (by decide))
  have rem_lt : ∀ z : Int, 0 ≤ z → (z % (G.length : Int)).toNat < G.length := fun z hz => by
    have h1 := Int.emod_nonneg z (b := (G.length : Int)) (by omega)
    have h2 := Int.emod_lt_of_pos z hGi
    omega
  have hi := rem_lt x0 b0.1
  have hk := rem_lt x1 b1.1
  have ei := hid (wrap_rem (u := x0) hl0 (by omega))
  have ek := hid (wrap_rem (u := x1) hl0 (by omega))
  have ei2 := hid (show x0 % (G.length : Int) = ((x0 % (G.length : Int)).toNat : Int) from (Int.toNat_of_nonneg (Int.emod_nonneg _ (by omega))).symm)
  have ek2 := hid (show x1 % (G.length : Int) = ((x1 % (G.length : Int)).toNat : Int) from (Int.toNat_of_nonneg (Int.emod_nonneg _ (by omega))).symm)
  refine D.q ⟨.int .i64 ((x0 % (G.length : Int)).toNat : Int), fun X F => Ex.q (h := by intro g w R hR; go_simp; rw [if_neg hne.out]; first | (rw [ei.out]; exact hR) | (rw [← ei2.out] at hR; exact hR)), ?_⟩
  refine go ?_
  refine D.q ⟨.int .i64 ((x1 % (G.length : Int)).toNat : Int), fun X F => Ex.q (h := by intro g w R hR; go_simp; rw [if_neg hne.out]; first | (rw [ek.out]; exact hR) | (rw [← ek2.out] at hR; exact hR)), ?_⟩
  clear ei ek ei2 ek2
  generalize (x0 % (G.length : Int)).toNat = i' at *
  generalize (x1 % (G.length : Int)).toNat = k' at *
  have hX := g3' i' k' hi hk
  have hcX := hX.out.2
  refine D.c (fun F w' hw => Exch_v G _ _ i' k' w' (rdC (hw.cells pk)) h40 hi hk) ?_
  refine go ?_
  refine D.cu (v := .tuple #[.int .i64 (costL t (exch G i' k')), .int .i64 0]) [14] (fun X F w' hw => ?_) ?_
  rotate_left
  · refine go ?_
    refine D.nil [] (fun X => ?_) (hchk := by show chkDD _ _ 0 [] = true; decide +kernel)
    refine go ?_
    refine GoL.cv (fun w' hw => awake_v w') ?_
    refine go ?_
    exact ev1 rfl
  have hw2 : Mem w [] (.rt (fun q : Nat × Nat => .slice (some ⟨q.1, 0, none⟩) G.length q.2) (fun q => [.pure (G.length ≤ q.2), .cells q.1 (ic (exch G i' k'))]) (X 14) :: _) w' := hw
  obtain ⟨⟨a, c⟩, hx3, h2⟩ := hw2.rtE
  have hx3' : X (0 + 1 + 1 + 1 + 1 + 1 + 1 + 1 + 1 + 1 + 1 + 1 + 1 + 1 + 1) = .slice (some ⟨a, 0, none⟩) G.length c := hx3
  rw [hx3']
  obtain ⟨hp, h3⟩ := Mem.pures h2
  have := cost_at t (exch G i' k') (some ⟨a, 0, none⟩) c w' hn (hT.old h3) (rdC (h3.cells .here)) ⟨by rw [exch_len]; omega, by rw [exch_len]; exact hp⟩ (cost_ok ht hX.out.1)
  rw [exch_len] at this
  exact this
end

section
set_option linter.all false
set_option pp.maxSteps 100000
set_option maxRecDepth 100000
set_option maxHeartbeats 4000000
open Go.RowKit

/- plain: orders first, then the words -/
def putD (S dat ws : List Int) : Nat → List Int
  | 0 => S
  | k + 1 => (putD S dat ws k).set (lx dat k).toNat (lx ws k)
theorem putO_set (os : List LOrd) (lay dat S : List Int) (a : Nat) (v : Int) : ∀ k, (∀ j, j < k → (lx lay j).toNat ≠ a) → putO os lay dat (S.set a v) k = (putO os lay dat S k).set a v
  | 0, _ => rfl
  | k + 1, h => by
    rw [putO, putO, putO_set os lay dat S a v k (fun j hj => h j (by omega)), List.set_comm _ _ (fun e => h k (by omega) e.symm)]
theorem putD_eq (os : List LOrd) (lay dat ws : List Int) (n : Nat) : ∀ k, (∀ j i, j < n → i < k → (lx lay j).toNat ≠ (lx dat i).toNat) → putD (putO os lay dat (List.replicate 128 0) n) dat ws k = putO os lay dat (putW dat ws k) n
  | 0, _ => rfl
  | k + 1, h => by
    rw [putD, putD_eq os lay dat ws n k (fun j i hj hi => h j i hj (by omega)), putW, putO_set os lay dat _ _ _ n (fun j hj => h j k hj (by omega))]
theorem putD_lay {t : TD} (ht : t.Ok) {lay ws : List Int} (hL : layL t lay = 0) (hw : (ws.length : Int) = t.data) : putD (putO t.os lay (lay.drop t.os.length) (List.replicate 128 0) t.os.length) (lay.drop t.os.length) ws ws.length = layW t lay ws := by
  obtain ⟨h1, h2, h3⟩ := layE_ok hL
  refine putD_eq t.os lay _ ws t.os.length ws.length fun j i hj hi e => ?_
  rw [lx_drop] at e
  have a1 := h2 _ (lx_mem (l := lay) (i := j) (by omega))
  have a2 := h2 _ (lx_mem (l := lay) (i := i + t.os.length) (by omega))
  exact take_ne h3 (show j < i + t.os.length by omega) (by omega) (by omega)
theorem putD_len {S : List Int} (dat ws : List Int) (h : S.length = 128) : ∀ k, (putD S dat ws k).length = 128
  | 0 => h
  | k + 1 => by rw [putD, List.length_set, putD_len dat ws h]
theorem rin4_v (n lo hi : Int) (w : World) : Calls Tryz.prog 117 #[.int .i64 n, .int .i64 lo, .int .i64 hi] w (fun e w' => e = .returned (.bool (decide (¬ outP n lo hi))) ∧ Below w.heap.size w w') := by
  refine go_in Tryz.func117 rfl Tryz.ntmps117 [] [] (Mem.start _) ?_
  by_cases h1 : lo ≤ n
  · by_cases h2 : n ≤ hi
    · refine go ?_
      exact ev1 (by rw [decide_eq_true (show ¬ outP n lo hi by unfold outP; omega)])
    · refine go ?_
      exact ev1 (by rw [decide_eq_false (show ¬ ¬ outP n lo hi by unfold outP; omega)])
  · refine go ?_
    exact ev1 (by rw [decide_eq_false (show ¬ ¬ outP n lo hi by unfold outP; omega)])
theorem rWord_v (n : Int) (w : World) : Calls Tryz.prog 76 #[.int .i64 n] w (fun e w' => e = .returned (.bool (decide (¬ outP n 0 16777215))) ∧ Below w.heap.size w w') := by
  refine go_in Tryz.func76 rfl Tryz.ntmps76 [] [] (Mem.start _) ?_
  refine go ?_
  refine GoL.cv (fun w' hw => rin4_v _ _ _ w') ?_
  refine go ?_
  refine ev1 ?_
  simp
theorem rWritten_v (op fr tt nx : Int) (h : (0 ≤ op ∧ op ≤ 7) ∧ (0 ≤ fr ∧ fr ≤ 127) ∧ (0 ≤ tt ∧ tt ≤ 127) ∧ 0 ≤ nx ∧ nx ≤ 127) (w : World) : Calls Tryz.prog 80 #[.agg #[.int .i64 op, .int .i64 fr, .int .i64 tt, .int .i64 nx]] w (fun e w' => e = .returned (.int .i64 (encI op fr tt nx)) ∧ Below w.heap.size w w') := by
  refine go_in Tryz.func80 rfl Tryz.ntmps80 [] [] (Mem.start _) ?_
  obtain ⟨⟨h1, h2⟩, ⟨h3, h4⟩, ⟨h5, h6⟩, h7, h8⟩ := h
  refine go ?_
  refine GoL.a (fun b1 => ?_)
  refine go ?_
  exact ev1 rfl
/-- the error ahead of the words -/
def layE0 (t : TD) (lay ws : List Int) : Int := if ¬ (chkL t).2.2 = 0 then (chkL t).2.2 else if ¬ layL t lay = 0 then layL t lay else if ¬ (ws.length : Int) = t.data then 3 else 0
def rLayL (t : TD) (lay ws : List Int) : List Int := if layF t lay ws = 0 then layW t lay ws else []
theorem layF_E0 (t : TD) (lay ws : List Int) : layF t lay ws = if ¬ layE0 t lay ws = 0 then layE0 t lay ws else if ws.any (fun n => decide (outP n 0 16777215)) = true then 7 else 0 := by
  by_cases h1 : (chkL t).2.2 = 0
  · by_cases h2 : layL t lay = 0
    · by_cases h3 : (ws.length : Int) = t.data <;> simp [layF, layE0, h1, h2, h3]
    · simp [layF, layE0, h1, h2]
  · simp [layF, layE0, h1]
theorem layE0_ok {t : TD} {lay ws : List Int} (h : layE0 t lay ws = 0) : (chkL t).2.2 = 0 ∧ layL t lay = 0 ∧ (ws.length : Int) = t.data := by
  unfold layE0 at h
  split at h
  · rename_i h1; exact absurd h h1
  split at h
  · rename_i h1; exact absurd h h1
  split at h
  · cases h
  · rename_i h1 h2 h3; exact ⟨Classical.byContradiction h1, Classical.byContradiction h2, Classical.byContradiction h3⟩
theorem rLay_v (t : TD) (lay ws : List Int) (al aw : Option Addr) (cl cw : Nat) (w : World) (hn : t.Len) (hT : t.At w) (hl : Rd icell 1 w al lay) (hll : lay.length ≤ 9223372036854775807 ∧ lay.length ≤ cl) (hw : Rd icell 1 w aw ws) (hwl : ws.length ≤ 9223372036854775807) :
    Calls Tryz.prog 27 #[.agg #[.slice t.ao t.os.length t.co, .int .i64 t.data, .int .i64 t.lines, .slice t.ap t.ps.length t.cp], .slice al lay.length cl, .slice aw ws.length cw] w
      (Ret (fun q : Option Addr × Nat => .tuple #[.slice q.1 (rLayL t lay ws).length q.2, .int .i64 (layF t lay ws)]) (fun q => [.rd icell 1 q.1 (rLayL t lay ws)]) w) := by
  obtain ⟨⟨p, i, e⟩, hr⟩ : ∃ q : Int × Int × Int, q = chkL t := ⟨_, rfl⟩
  refine go_in Tryz.func27 rfl Tryz.ntmps27 [] [] (Mem.start _) ?_
  refine go ?_
  refine GoL.a (fun b3 => ?_)
  refine go ?_
  refine GoL.cv (fun w' hw => rcheck_v t p i e w' (hT.old hw) hn hr.symm) ?_
  have hok : e = 0 → t.Ok := fun h => by subst h; exact chkL_ok hr.symm
  have hE0 := hid (show layE0 t lay ws = (if ¬ (if ¬ e = 0 then e else layL t lay) = 0 then (if ¬ e = 0 then e else layL t lay) else if ¬ (ws.length : Int) = t.data then 3 else 0) by
    unfold layE0
    rw [← hr]
    by_cases h1 : e = 0
    · by_cases h2 : layL t lay = 0 <;> simp [h1, h2]
    · simp [h1])
  clear hr
  refine go ?_
  refine go_join [(1, .slice al lay.length cl), (2, .slice aw ws.length cw), (3, .pointer (some ⟨b3, 0, none⟩)), (6, .slice none 0 0), (7, .int .i64 0), (10, .int .i64 (if ¬ e = 0 then e else layL t lay))] [.cells b3 [.slice t.ao t.os.length t.co, .int .i64 t.data, .int .i64 t.lines, .slice t.ap t.ps.length t.cp]] ?_ ?_
  · refine go_if (fun h => ?_) (fun h => ?_)
    · have h1 : e = 0 := by simpa using h
      have hk := hok h1
      rw [if_neg (by simpa using h1)]
      clear h h1
      refine go ?_
      refine GoL.cv (fun w' hw => rlayout_v t hk lay al cl w' hn (hw.old hl) hll.1) ?_
      refine go ?_
      exact xj_n (by simp [AgreeL, At]) sb
    · have h1 : ¬ e = 0 := by simpa using h
      rw [if_pos h1]
      clear h h1
      refine go ?_
      exact xj_n (by simp [AgreeL, At]) sb
  have hE1 : (if ¬ e = 0 then e else layL t lay) = 0 → t.Ok := fun h => by
    by_cases h1 : e = 0
    · exact hok h1
    · rw [if_pos h1] at h; exact absurd h h1
  generalize (if ¬ e = 0 then e else layL t lay) = E1 at hE0 hE1 ⊢
  refine go ?_
  refine GoL.jk 6 [(37, .bool (decide (E1 = 0 ∧ ¬ (ws.length : Int) = t.data)))] [1, 2, 3, 6, 7, 10] ?_ ?_
  · refine GoL.sp (fun h1 => ?_) (fun h1 => ?_)
    · refine go ?_
      exact GoL.jd (by by_cases h9 : (ws.length : Int) = t.data <;> simp [AgreeL, At, h1, h9]) sb
    · refine go ?_
      exact GoL.jd (by simp [AgreeL, At, h1]) sb
  refine go ?_
  refine go_join [(1, .slice al lay.length cl), (2, .slice aw ws.length cw), (3, .pointer (some ⟨b3, 0, none⟩)), (6, .slice none 0 0), (7, .int .i64 0), (10, .int .i64 (layE0 t lay ws))] [.cells b3 [.slice t.ao t.os.length t.co, .int .i64 t.data, .int .i64 t.lines, .slice t.ap t.ps.length t.cp]] ?_ ?_
  · refine go_if (fun h => ?_) (fun h => ?_)
    · have hz : layE0 t lay ws = 3 := by rw [hE0.out, if_neg (by simpa using h.1), if_pos (by simpa using h.2)]
      rw [hz]
      clear h hz
      refine go ?_
      exact xj_n (by simp [AgreeL, At]) sb
    · have hz : layE0 t lay ws = E1 := by
        rw [hE0.out]
        by_cases h1 : E1 = 0
        · have h2 : (ws.length : Int) = t.data := Classical.byContradiction fun h3 => h ⟨h1, h3⟩
          rw [if_neg (by simpa using h1), if_neg (by simpa using h2), h1]
        · rw [if_pos h1]
      rw [hz]
      clear h hz
      refine go ?_
      exact xj_n (by simp [AgreeL, At]) sb
  have hF := hid (layF_E0 t lay ws)
  have hOk := hid (layE0_ok (t := t) (lay := lay) (ws := ws))
  have hTk : layE0 t lay ws = 0 → t.Ok := fun h => by
    refine hE1 ?_
    have := hE0.out
    rw [h] at this
    by_cases h1 : E1 = 0
    · exact h1
    · rw [if_pos h1] at this; exact this.symm
  clear hE0 hE1
  generalize layE0 t lay ws = E at *
  refine go ?_
  refine go_loop (X := Nat × Int) (fun y => y.1 ≤ ws.length ∧ ((y.2 = E ∧ ∀ j, j < y.1 → ¬ outP (lx ws j) 0 16777215) ∨ (E = 0 ∧ y.2 = 7 ∧ ∃ j, j < ws.length ∧ outP (lx ws j) 0 16777215))) (fun y => ws.length - y.1) (fun y => [(11, .int .i64 y.1), (10, .int .i64 y.2)]) (fun _ => [.cells b3 [.slice t.ao t.os.length t.co, .int .i64 t.data, .int .i64 t.lines, .slice t.ap t.ps.length t.cp]]) (0, E) [1, 2, 3, 6, 7] ⟨Nat.zero_le _, .inl ⟨rfl, fun j hj => by omega⟩⟩ (by simp [AgreeL, At]) sb (fun y hy => ?_)
  obtain ⟨i', e'⟩ := y
  obtain ⟨hi, hI⟩ := hy
  dsimp only at hi hI ⊢
  refine go ?_
  refine GoL.jk 3 [(45, .bool (decide (i' < ws.length ∧ e' = 0)))] [1, 2, 3, 6, 7, 11, 10] ?_ ?_
  · refine GoL.sp (fun h1 => ?_) (fun h1 => ?_)
    · refine go ?_
      exact GoL.jd (by by_cases h9 : e' = 0 <;> simp [AgreeL, At, h1, h9]) sb
    · refine go ?_
      exact GoL.jd (by simp [AgreeL, At, h1]) sb
  refine go ?_
  refine go_if (fun h => ?_) (fun h => ?_)
  · obtain ⟨h1, h2⟩ := h
    rcases hI with ⟨g1, g2⟩ | ⟨_, g1, _⟩
    rotate_left
    · exact absurd (h2.symm.trans g1) (by decide)
    have gE2 := hid (show E = 0 by rw [← g1]; exact h2)
    subst h2
    clear g1 hF hOk hTk
    refine go ?_
    refine GoL.cv (fun w' hw => rWord_v _ w') ?_
    refine go ?_
    refine go_if (fun h3 => ?_) (fun h3 => ?_)
    · have hx := hid (show ∃ j, j < ws.length ∧ outP (lx ws j) 0 16777215 from ⟨i', h1, h3⟩)
      refine go ?_
      exact go_again (i' + 1, 7) ⟨h1, .inr ⟨gE2.out, rfl, hx.out⟩⟩ (by simp only; omega) (by simp [AgreeL, At]) sb
    · refine go ?_
      exact go_again (i' + 1, 0) ⟨h1, .inl ⟨gE2.out.symm, fun j hj => by
        dsimp only at hj
        by_cases e : j = i'
        · rw [e]; exact h3
        · exact g2 j (by omega)⟩⟩ (by simp only; omega) (by simp [AgreeL, At]) sb
  have hEF : e' = layF t lay ws := by
    rw [hF.out]
    rcases hI with ⟨g1, g2⟩ | ⟨g0, g1, j, g2, g3⟩
    · by_cases hE : E = 0
      · have hi9 : i' = ws.length := Classical.byContradiction fun hne => h ⟨by omega, by rw [g1, hE]⟩
        have hany : ¬ (ws.any (fun n => decide (outP n 0 16777215)) = true) := fun ha => by
          obtain ⟨z, hz, h9⟩ := List.any_eq_true.1 ha
          obtain ⟨j, hj, rfl⟩ := List.mem_iff_getElem.1 hz
          rw [← lx_eq hj] at h9
          exact g2 j (by omega) (by simpa using h9)
        rw [if_neg (by simpa using hE), if_neg hany, g1, hE]
      · rw [if_pos hE, g1]
    · rw [if_neg (by simpa using g0), if_pos (List.any_eq_true.2 ⟨_, lx_mem g2, by simpa using g3⟩), g1]
  clear h hI
  subst hEF
  refine go ?_
  by_cases hz : layF t lay ws = 0
  rotate_left
  · have hb : (layF t lay ws != 0) = true := by simpa using hz
    have hR := hid (show rLayL t lay ws = [] by unfold rLayL; rw [if_neg hz])
    rw [hb]
    clear hz hF hOk hTk hb
    refine go ?_
    refine end2 (fun w' hw => ⟨(none, 0), by rw [hR.out], ?_⟩)
    rw [hR.out]
    exact ⟨hw.below, fun _ => False, fun _ h => h.elim, ⟨fun _ h => absurd rfl h, .inl rfl⟩, trivial⟩
  have hEz : E = 0 := by
    have h1 := hF.out
    rw [hz] at h1
    by_cases h2 : E = 0
    · exact h2
    · rw [if_pos h2] at h1; exact h1.symm
  have htok := hTk hEz
  obtain ⟨_, hL, hwd⟩ := hOk.out hEz
  have hRL := hid (show rLayL t lay ws = layW t lay ws by unfold rLayL; rw [if_pos hz])
  rw [show (layF t lay ws != 0) = false by simpa using hz, hz]
  have hPD := hid (putD_lay (ws := ws) htok hL hwd)
  have hwd2 := hid hwd
  have hd1 := htok.d1
  have hl1 := htok.l1
  have hn1 := htok.n1
  have hto := hT.o
  obtain ⟨q1, q2, _⟩ := layE_ok hL
  have q1' := hid q1
  have hw17 : ws.length ≤ 16 := by omega
  have hlb : ∀ i, i < lay.length → 0 ≤ lx lay i ∧ lx lay i < 128 := fun i hi => by have := q2 _ (lx_mem hi); omega
  have hll40 : lay.length ≤ 40 := by omega
  have hnl : t.os.length ≤ lay.length := by omega
  have hnw : t.os.length + ws.length = lay.length := by omega
  have hnw2 := hid hnw
  clear hz hEz hF hOk hTk hwd q1 q2 hL hnw
  have hodd := fun i (hi : i < t.os.length) => hid (oddL_ok (htok.o _ (lx_mem hi)))
  have hD : ∀ z : Int, 0 ≤ z → lx lay ((t.os.length : Int) + z).toNat = lx (lay.drop t.os.length) z.toNat := fun z hz => by
    rw [lx_drop]; congr 1; omega
  have hdb : ∀ j, j < ws.length → 0 ≤ lx (lay.drop t.os.length) j ∧ lx (lay.drop t.os.length) j ≤ 127 := fun j hj => by
    rw [lx_drop]; have := hlb (j + t.os.length) (by have := hnw2.out; omega); omega
  refine go ?_
  refine GoL.mks (f := icell) rfl elI elI' (k := 128) (by omega) (fun g => ?_)
  refine go ?_
  generalize hdat : lay.drop t.os.length = dat at *
  refine go_loop (X := Nat) (fun k => k ≤ t.os.length) (fun k => t.os.length - k) (fun k => [(14, .int .i64 k)]) (fun k => [.cells g (ic (putO t.os lay dat (List.replicate 128 0) k)), .cells b3 [.slice t.ao t.os.length t.co, .int .i64 t.data, .int .i64 t.lines, .slice t.ap t.ps.length t.cp]]) 0 [1, 2, 3, 7, 12, 13] (Nat.zero_le _) (by simp [AgreeL, At]) sb (fun k hk => ?_)
  have HOL := hid (putO_len t.os lay dat (List.replicate 128 0) (by simp) k)
  refine go ?_
  refine go_if (fun h => ?_) (fun h => ?_)
  · have hk2 : k < t.os.length := by omega
    have ho := hodd k hk2
    have hkb := hlb k (by omega)
    have HPO : Hid (putO t.os lay dat (List.replicate 128 0) (k + 1) = (putO t.os lay dat (List.replicate 128 0) k).set (lx lay k).toNat (ordW lay dat (lx t.os k))) := hid rfl
    generalize putO t.os lay dat (List.replicate 128 0) k = S at HOL HPO ⊢
    refine go ?_
    generalize lx t.os k = o at ho HPO ⊢
    refine GoL.a (fun b15 => ?_)
    refine go ?_
    refine GoL.a (fun b16 => ?_)
    refine go ?_
    refine GoL.cv (fun w' hw => rfrom_v o w') ?_
    refine go ?_
    obtain ⟨F, hvF⟩ : ∃ z, z = (if fromB o.op = true then lx dat o.fr.toNat else 0) := ⟨_, rfl⟩
    refine go_join [(1, .slice al lay.length cl), (2, .slice aw ws.length cw), (3, .pointer (some ⟨b3, 0, none⟩)), (7, .int .i64 0), (12, .slice (some ⟨g, 0, none⟩) 128 128), (13, .int .i64 t.os.length), (14, .int .i64 k), (15, .pointer (some ⟨b15, 0, none⟩)), (16, .pointer (some ⟨b16, 0, none⟩))] [.cells b16 [.int .i64 o.op, .int .i64 F, .int .i64 0, .int .i64 0], .cells b15 [.int .i64 o.op, .int .i64 o.fr, .int .i64 o.tt, .int .i64 o.nx], .cells g (ic S), .cells b3 [.slice t.ao t.os.length t.co, .int .i64 t.data, .int .i64 t.lines, .slice t.ap t.ps.length t.cp]] ?_ ?_
    · refine go_if (fun h => ?_) (fun h => ?_)
      · have hc : fromB o.op = true := by first | exact h | simpa using h
        have hv := hid (hvF.trans (if_pos hc))
        have hb := ho.out.2.1 hc
        have hb0 := hb.1
        have hb1 : (t.os.length : Int) + o.fr < lay.length := by have := hnw2.out; have := hwd2.out; omega
        clear hvF h
        replace hc := hid hc
        refine go ?_
        first | rw [hD _ (by assumption)] | skip
        rw [hv.out]
        exact xj_n (by simp [AgreeL, At]) sb
      · have hc : ¬ (fromB o.op = true) := by first | exact h | simpa using h
        have hv := hid (hvF.trans (if_neg hc))
        clear hvF h
        replace hc := hid hc
        refine go ?_
        rw [hv.out]
        exact xj_n (by simp [AgreeL, At]) sb
    have HvF := hid hvF
    clear hvF
    refine go ?_
    refine GoL.cv (fun w' hw => rto_v o w') ?_
    refine go ?_
    obtain ⟨A, hvA⟩ : ∃ z, z = (if toB o.op = true then lx dat o.tt.toNat else 0) := ⟨_, rfl⟩
    refine go_join [(1, .slice al lay.length cl), (2, .slice aw ws.length cw), (3, .pointer (some ⟨b3, 0, none⟩)), (7, .int .i64 0), (12, .slice (some ⟨g, 0, none⟩) 128 128), (13, .int .i64 t.os.length), (14, .int .i64 k), (15, .pointer (some ⟨b15, 0, none⟩)), (16, .pointer (some ⟨b16, 0, none⟩))] [.cells b16 [.int .i64 o.op, .int .i64 F, .int .i64 A, .int .i64 0], .cells b15 [.int .i64 o.op, .int .i64 o.fr, .int .i64 o.tt, .int .i64 o.nx], .cells g (ic S), .cells b3 [.slice t.ao t.os.length t.co, .int .i64 t.data, .int .i64 t.lines, .slice t.ap t.ps.length t.cp]] ?_ ?_
    · refine go_if (fun h => ?_) (fun h => ?_)
      · have hc : toB o.op = true := by first | exact h | simpa using h
        have hv := hid (hvA.trans (if_pos hc))
        have hb := ho.out.2.2.1 hc
        have hb0 := hb.1
        have hb1 : (t.os.length : Int) + o.tt < lay.length := by have := hnw2.out; have := hwd2.out; omega
        clear hvA h
        replace hc := hid hc
        refine go ?_
        first | rw [hD _ (by assumption)] | skip
        rw [hv.out]
        exact xj_n (by simp [AgreeL, At]) sb
      · have hc : ¬ (toB o.op = true) := by first | exact h | simpa using h
        have hv := hid (hvA.trans (if_neg hc))
        clear hvA h
        replace hc := hid hc
        refine go ?_
        rw [hv.out]
        exact xj_n (by simp [AgreeL, At]) sb
    have HvA := hid hvA
    clear hvA
    refine go ?_
    obtain ⟨B, hvB⟩ : ∃ z, z = (if o.op = 5 then lx lay o.tt.toNat else A) := ⟨_, rfl⟩
    refine go_join [(1, .slice al lay.length cl), (2, .slice aw ws.length cw), (3, .pointer (some ⟨b3, 0, none⟩)), (7, .int .i64 0), (12, .slice (some ⟨g, 0, none⟩) 128 128), (13, .int .i64 t.os.length), (14, .int .i64 k), (15, .pointer (some ⟨b15, 0, none⟩)), (16, .pointer (some ⟨b16, 0, none⟩))] [.cells b16 [.int .i64 o.op, .int .i64 F, .int .i64 B, .int .i64 0], .cells b15 [.int .i64 o.op, .int .i64 o.fr, .int .i64 o.tt, .int .i64 o.nx], .cells g (ic S), .cells b3 [.slice t.ao t.os.length t.co, .int .i64 t.data, .int .i64 t.lines, .slice t.ap t.ps.length t.cp]] ?_ ?_
    · refine go_if (fun h => ?_) (fun h => ?_)
      · have hc : o.op = 5 := by first | exact h | simpa using h
        have hv := hid (hvB.trans (if_pos hc))
        have hb := ho.out.2.2.2 o.tt ((leads_mem o o.tt).2 (.inr ⟨hc, rfl⟩))
        have hb0 := hb.1
        have hb1 : o.tt < lay.length := by omega
        clear hvB h
        replace hc := hid hc
        refine go ?_
        first | rw [hD _ (by assumption)] | skip
        rw [hv.out]
        exact xj_n (by simp [AgreeL, At]) sb
      · have hc : ¬ (o.op = 5) := by first | exact h | simpa using h
        have hv := hid (hvB.trans (if_neg hc))
        clear hvB h
        replace hc := hid hc
        refine go ?_
        rw [hv.out]
        exact xj_n (by simp [AgreeL, At]) sb
    have HvB := hid hvB
    clear hvB
    refine go ?_
    refine GoL.cv (fun w' hw => rleads_v o w') ?_
    refine go ?_
    obtain ⟨N, hvN⟩ : ∃ z, z = (if ¬ o.op = 0 then lx lay o.nx.toNat else 0) := ⟨_, rfl⟩
    refine go_join [(1, .slice al lay.length cl), (2, .slice aw ws.length cw), (3, .pointer (some ⟨b3, 0, none⟩)), (7, .int .i64 0), (12, .slice (some ⟨g, 0, none⟩) 128 128), (13, .int .i64 t.os.length), (14, .int .i64 k), (15, .pointer (some ⟨b15, 0, none⟩)), (16, .pointer (some ⟨b16, 0, none⟩))] [.cells b16 [.int .i64 o.op, .int .i64 F, .int .i64 B, .int .i64 N], .cells b15 [.int .i64 o.op, .int .i64 o.fr, .int .i64 o.tt, .int .i64 o.nx], .cells g (ic S), .cells b3 [.slice t.ao t.os.length t.co, .int .i64 t.data, .int .i64 t.lines, .slice t.ap t.ps.length t.cp]] ?_ ?_
    · refine go_if (fun h => ?_) (fun h => ?_)
      · have hc : ¬ o.op = 0 := by first | exact h | simpa using h
        have hv := hid (hvN.trans (if_pos hc))
        have hb := ho.out.2.2.2 o.nx ((leads_mem o o.nx).2 (.inl ⟨hc, rfl⟩))
        have hb0 := hb.1
        have hb1 : o.nx < lay.length := by omega
        clear hvN h
        replace hc := hid hc
        refine go ?_
        first | rw [hD _ (by assumption)] | skip
        rw [hv.out]
        exact xj_n (by simp [AgreeL, At]) sb
      · have hc : ¬ (¬ o.op = 0) := by first | exact h | simpa using h
        have hv := hid (hvN.trans (if_neg hc))
        clear hvN h
        replace hc := hid hc
        refine go ?_
        rw [hv.out]
        exact xj_n (by simp [AgreeL, At]) sb
    have HvN := hid hvN
    clear hvN
    refine go ?_
    have bF : 0 ≤ F ∧ F ≤ 127 := by rw [HvF.out]; split; (rename_i h9; exact hdb _ (by have := ho.out.2.1 h9; have := hwd2.out; omega)); omega
    have bA : 0 ≤ A ∧ A ≤ 127 := by rw [HvA.out]; split; (rename_i h9; exact hdb _ (by have := ho.out.2.2.1 h9; have := hwd2.out; omega)); omega
    have bB : 0 ≤ B ∧ B ≤ 127 := by rw [HvB.out]; split; (rename_i h9; have h8 := ho.out.2.2.2 o.tt ((leads_mem o o.tt).2 (.inr ⟨h9, rfl⟩)); have := hlb o.tt.toNat (by omega); omega); exact bA
    have bN : 0 ≤ N ∧ N ≤ 127 := by rw [HvN.out]; split; (rename_i h9; have h8 := ho.out.2.2.2 o.nx ((leads_mem o o.nx).2 (.inl ⟨h9, rfl⟩)); have := hlb o.nx.toNat (by omega); omega); omega
    have hOW := hid (show encI o.op F B N = ordW lay dat o by rw [HvF.out, HvB.out, HvA.out, HvN.out]; unfold ordW; by_cases h9 : o.op = 0 <;> simp [h9])
    refine D.cv (fun F' w' hw => rWritten_v o.op F B N ⟨ho.out.1, bF, bB, bN⟩ w') ?_
    refine go ?_
    refine GoL.sa (b := g) (l := S) (i := (lx lay k).toNat) (z := encI o.op F B N) rp (by have := HOL.out; omega) ?_
    rw [hOW.out, ← HPO.out]
    refine go ?_
    exact go_again (k + 1) hk2 (by omega) (by simp [AgreeL, At]) sb
  obtain rfl : k = t.os.length := by omega
  generalize putO t.os lay dat (List.replicate 128 0) t.os.length = S0 at HOL hPD ⊢
  refine go ?_
  refine go_loop (X := Nat) (fun k => k ≤ ws.length) (fun k => ws.length - k) (fun k => [(17, .int .i64 k)]) (fun k => [.cells g (ic (putD S0 dat ws k))]) 0 [1, 2, 7, 12, 13] (Nat.zero_le _) (by simp [AgreeL, At]) sb (fun k hk => ?_)
  have HDL := hid (putD_len dat ws HOL.out k)
  refine go ?_
  refine go_if (fun h => ?_) (fun h => ?_)
  · have hk2 : k < ws.length := by omega
    have hkb : 0 ≤ lx dat k ∧ lx dat k < 128 := by have := hdb k hk2; omega
    have hDk := hD k (by omega)
    rw [Int.toNat_natCast] at hDk
    have hin : (t.os.length : Int) + k < lay.length := by have := hnw2.out; omega
    refine go ?_
    rw [hDk]
    refine go ?_
    refine GoL.sa (b := g) (l := putD S0 dat ws k) (i := (lx dat k).toNat) (z := lx ws k) rp (by have := HDL.out; omega) ?_
    refine go ?_
    exact go_again (k + 1) hk2 (by omega) (by simp [AgreeL, At]) sb
  obtain rfl : k = ws.length := by omega
  refine go ?_
  refine end2 (fun w' hw => ⟨(some ⟨g, 0, none⟩, 128), by rw [hRL.out, ← hPD.out, HDL.out], ?_⟩)
  dsimp only
  rw [hRL.out, ← hPD.out]
  exact (hw.c2r (f := icell) (m := 1) (putD S0 dat ws ws.length) .here (fun _ => rfl) (ic_flat _).symm).done sb
end

section
set_option linter.all false
set_option pp.maxSteps 100000
set_option maxRecDepth 100000
set_option maxHeartbeats 4000000
open Go.RowKit

theorem layW_len (t : TD) (lay ws : List Int) : (layW t lay ws).length = 128 := putO_len _ _ _ _ (putW_len _ _ _) _
theorem lays_walk (t : TD) (lay ws : List Int) (al aw : Option Addr) (cl cw : Nat) (w : World) (hn : t.Len) (hT : t.At w) (hl : Rd icell 1 w al lay) (hll : lay.length ≤ 9223372036854775807 ∧ lay.length ≤ cl) (hw : Rd icell 1 w aw ws) (hwl : ws.length ≤ 9223372036854775807) :
    Calls Tryz.prog 6 #[.agg #[.slice t.ao t.os.length t.co, .int .i64 t.data, .int .i64 t.lines, .slice t.ap t.ps.length t.cp], .slice al lay.length cl, .slice aw ws.length cw] w (fun e w' => e = .returned (.bool true) ∧ Below w.heap.size w w') := by
  refine go_in Tryz.func6 rfl Tryz.ntmps6 [] [] (Mem.start _) ?_
  refine go ?_
  refine GoL.a (fun b3 => ?_)
  refine go ?_
  have hI : ∀ (l : List Int) (n : Nat), l.length = n → ∀ (a a2 : Option Addr) (c c2 : Nat) (w : World), Rd icell 1 w a l → Rd icell 1 w a2 l → n ≤ 128 → Calls Tryz.prog 23 #[.slice a n c, .slice a2 l.length c2] w (fun e w' => e = .returned (.bool true) ∧ Below w.heap.size w w') := fun l n hn a a2 c c2 w h1 h2 h3 => by
    subst hn
    have := Ints_v l l a a2 c c2 w h1 h2 (by omega) (by omega)
    rw [decide_eq_true rfl] at this
    exact this
  have hI2 := hid hI
  clear hI
  by_cases he : layF t lay ws = 0
  · have hR := hid (show rLayL t lay ws = layW t lay ws by unfold rLayL; rw [if_pos he])
    have hL := hid (layW_len t lay ws)
    refine GoL.c (fun w' hw2 => Lay_ok t lay ws al aw cl cw w' hn (hT.old hw2) (hw2.old hl) hll (hw2.old hw) he) (fun g => ?_)
    refine go ?_
    refine GoL.c (fun w' hw2 => rLay_v t lay ws al aw cl cw w' hn (hT.old hw2) (hw2.old hl) hll (hw2.old hw) hwl) (fun q => ?_)
    rw [he, hR.out]
    generalize layW t lay ws = W9 at *
    clear he hR
    refine go ?_
    refine GoL.cv (fun w' hw2 => hI2.out W9 128 hL.out _ _ _ _ w' (rdC (hw2.cells pk)) (hw2.rd pk) (by decide)) ?_
    refine go ?_
    refine GoL.cv (fun w' hw => awake_v w') ?_
    refine go ?_
    exact ev1 rfl
  · have hR := hid (show rLayL t lay ws = [] by unfold rLayL; rw [if_neg he])
    refine GoL.cv (fun w' hw2 => Lay_bad t lay ws al aw cl cw w' hn (hT.old hw2) (hw2.old hl) hll (hw2.old hw) hwl he) ?_
    refine go ?_
    refine GoL.c (fun w' hw2 => rLay_v t lay ws al aw cl cw w' hn (hT.old hw2) (hw2.old hl) hll (hw2.old hw) hwl) (fun q => ?_)
    rw [hR.out]
    clear he hR
    refine go ?_
    refine GoL.cv (fun w' hw2 => hI2.out [] 0 rfl _ _ _ _ w' (.inl rfl) (hw2.rd pk) (by decide)) ?_
    refine go ?_
    refine GoL.cv (fun w' hw => awake_v w') ?_
    refine go ?_
    exact ev1 rfl
end

section
set_option linter.all false
set_option pp.maxSteps 100000
set_option maxRecDepth 100000
set_option maxHeartbeats 4000000
open Go.RowKit

theorem rfree_v (t : TD) (lay : List Int) (al : Option Addr) (cl : Nat) (p : Nat) (w : World) (hn : t.Len) (hl1 : 1 ≤ t.lines ∧ t.lines ≤ 8) (hl : Rd icell 1 w al lay) (hll : lay.length ≤ 40) (hp : p < 16) :
    Calls Tryz.prog 108 #[.agg #[.slice t.ao t.os.length t.co, .int .i64 t.data, .int .i64 t.lines, .slice t.ap t.ps.length t.cp], .slice al lay.length cl, .int .i64 p] w (fun e w' => e = .returned (.int .i64 (freeP lay t.lines p)) ∧ Below w.heap.size w w') := by
  refine go_in Tryz.func108 rfl Tryz.ntmps108 [] [] (Mem.start _) ?_
  refine go ?_
  refine GoL.a (fun b3 => ?_)
  refine go ?_
  refine go_loop (X := Nat) (fun y => y ≤ 8 ∧ ∀ i, i < y → ((p : Int) + 16 * (i : Int)) ∈ lay) (fun y => 8 - y) (fun y => [(7, .int .i64 ((p : Int) + 16 * (y : Int)))]) (fun _ => [.cells b3 [.slice t.ao t.os.length t.co, .int .i64 t.data, .int .i64 t.lines, .slice t.ap t.ps.length t.cp]]) 0 [1, 3] ⟨Nat.zero_le _, fun i hi => by omega⟩ (by simp [AgreeL, At]) sb (fun y hy => ?_)
  obtain ⟨hy8, hall⟩ := hy
  refine go ?_
  refine go_if (fun h => ?_) (fun h => ?_)
  rotate_left
  · have hR := hid (show freeP lay t.lines p = -1 by
      rcases freeP_spec (lay := lay) hl1 hp with ⟨h1, _⟩ | ⟨h1, h2, h3, h4, _⟩
      · exact h1
      · refine absurd ?_ h4
        have := hall ((freeP lay t.lines p).toNat / 16) (by omega)
        rw [show (p : Int) + 16 * (((freeP lay t.lines p).toNat / 16 : Nat) : Int) = freeP lay t.lines p by omega] at this
        exact this)
    clear h
    refine go ?_
    exact ev1 (by rw [hR.out])
  have hlt : (p : Int) + 16 * (y : Int) < t.lines * 16 := by omega
  have hy7 : y < 8 := by omega
  clear h
  refine go ?_
  refine go_loop (X := Nat × Bool) (fun k => k.1 ≤ lay.length ∧ (k.2 = true ↔ ∀ i, i < k.1 → ¬ lx lay i = (p : Int) + 16 * (y : Int))) (fun k => lay.length - k.1) (fun k => [(9, .int .i64 k.1), (8, .bool k.2)]) (fun _ => [.cells b3 [.slice t.ao t.os.length t.co, .int .i64 t.data, .int .i64 t.lines, .slice t.ap t.ps.length t.cp]]) (0, true) [1, 3, 7] ⟨Nat.zero_le _, by simp⟩ (by simp [AgreeL, At]) sb (fun z hz => ?_)
  obtain ⟨k, B⟩ := z
  obtain ⟨hk, hB⟩ := hz
  dsimp only at hk hB ⊢
  have hB2 := hid hB
  clear hB
  have hall2 := hid hall
  clear hall
  have hpb : (p : Int) + 16 * ((y : Int) + 1) = (p : Int) + 16 * (y : Int) + 16 := by omega
  refine go ?_
  refine go_if (fun h => ?_) (fun h => ?_)
  · have hk2 : k < lay.length := by omega
    refine go ?_
    cases B with
    | false =>
      refine go ?_
      exact go_again (k + 1, false) ⟨hk2, ⟨fun h => (by cases h), fun h => hB2.out.2 fun i hi => h i (by simp only; omega)⟩⟩ (by simp only; omega) (by simp [AgreeL, At]) sb
    | true =>
      refine go ?_
      refine go_again (k + 1, lx lay k != (p : Int) + 16 * (y : Int)) ⟨hk2, ?_⟩ (by simp only; omega) (by simp [AgreeL, At]) sb
      have h9 := hB2.out.1 rfl
      dsimp only
      constructor
      · intro h8 i hi
        by_cases e : i = k
        · rw [e]; simpa using h8
        · exact h9 i (by omega)
      · intro h8
        simpa using h8 k (by omega)
  have hk9 : k = lay.length := by omega
  clear h
  cases B with
  | true =>
    have hnm : ¬ ((p : Int) + 16 * (y : Int)) ∈ lay := fun hm => by
      obtain ⟨i, hi, e⟩ := List.mem_iff_getElem.1 hm
      exact hB2.out.1 rfl i (by omega) (by rw [lx_eq hi]; exact e)
    have hv := freeV_eq (lay := lay) y 8 (p : Int) (by omega) (fun j hj => hall2.out j hj) hnm
    have hR := hid (show freeP lay t.lines p = (p : Int) + 16 * (y : Int) by unfold freeP; rw [hv, if_neg (by omega)])
    clear hk9 hv
    refine go ?_
    exact ev1 (by rw [hR.out])
  | false =>
    have hm : ((p : Int) + 16 * (y : Int)) ∈ lay := Classical.byContradiction fun hm => by
      have := hB2.out.2 fun i hi e => hm (by rw [← e]; exact lx_mem (by omega))
      cases this
    clear hk9
    refine go ?_
    refine go_again (y + 1) ⟨by omega, fun i hi => ?_⟩ (by omega) (by simp [AgreeL, At]; omega) sb
    by_cases e : i = y
    · rw [e]; exact hm
    · exact hall2.out i (by omega)
theorem nextP_skip {f : List Int} (m : Nat) (p : Nat) (hp : p < 16) : ∀ k, k ≤ m → (∀ j, j < k → lx f ((p + j) % 16) < 0) → nextP f m p = nextP f (m - k) ((p + k) % 16)
  | 0, _, _ => by rw [Nat.add_zero, Nat.mod_eq_of_lt hp]; rfl
  | k + 1, hk, h => by
    rw [nextP_skip m p hp k (by omega) (fun j hj => h j (by omega))]
    obtain ⟨q, hq⟩ : ∃ q, m - k = q + 1 := ⟨m - k - 1, by omega⟩
    rw [hq, nextP, if_pos (h k (by omega)), show m - (k + 1) = q by omega, show ((p + k) % 16 + 1) % 16 = (p + (k + 1)) % 16 by omega]
theorem rfromP_v (t : TD) (lay : List Int) (al : Option Addr) (cl : Nat) (p : Nat) (w : World) (hn : t.Len) (hl1 : 1 ≤ t.lines ∧ t.lines ≤ 8) (hl : Rd icell 1 w al lay) (hll : lay.length ≤ 40) (hp : p < 16) (hex : ∃ j, j < 16 ∧ 0 ≤ lx (freeL lay t.lines) ((p + j) % 16)) :
    Calls Tryz.prog 107 #[.agg #[.slice t.ao t.os.length t.co, .int .i64 t.data, .int .i64 t.lines, .slice t.ap t.ps.length t.cp], .slice al lay.length cl, .int .i64 p] w (fun e w' => e = .returned (.int .i64 (lx (freeL lay t.lines) (nextP (freeL lay t.lines) 16 p))) ∧ Below w.heap.size w w') := by
  have hex2 := hid hex
  clear hex
  refine go_in Tryz.func107 rfl Tryz.ntmps107 [] [] (Mem.start _) ?_
  refine go ?_
  refine GoL.a (fun b3 => ?_)
  refine go ?_
  refine go_loop (X := Nat) (fun k => k ≤ 16 ∧ ∀ j, j < k → lx (freeL lay t.lines) ((p + j) % 16) < 0) (fun k => 16 - k) (fun k => [(7, .int .i64 k)]) (fun _ => [.cells b3 [.slice t.ao t.os.length t.co, .int .i64 t.data, .int .i64 t.lines, .slice t.ap t.ps.length t.cp]]) 0 [1, 2, 3] ⟨by omega, fun j hj => by omega⟩ (by simp [AgreeL, At]) sb (fun k hk => ?_)
  obtain ⟨hk, hall⟩ := hk
  have hall2 := hid hall
  clear hall
  refine go ?_
  refine go_if (fun h => ?_) (fun h => ?_)
  rotate_left
  · obtain ⟨j, hj, h9⟩ := hex2.out
    exact absurd (hall2.out j (by omega)) (by omega)
  have hk16 : k < 16 := by omega
  have hlt : (p + k) % 16 < 16 := Nat.mod_lt _ (by decide)
  have hm := hid (show ((p : Int) + (k : Int)) % 16 = (((p + k) % 16 : Nat) : Int) by omega)
  have hq := hid (freeL_at (lay := lay) (lines := t.lines) hlt)
  refine go ?_
  rw [hm.out]
  refine GoL.cv (fun w' hw => rfree_v t lay al cl ((p + k) % 16) w' hn hl1 (hw.old hl) hll hlt) ?_
  refine go ?_
  refine go_if (fun h9 => ?_) (fun h9 => ?_)
  · have hR := hid (show nextP (freeL lay t.lines) 16 p = (p + k) % 16 by
      rw [nextP_skip 16 p hp k hk hall2.out]
      obtain ⟨q, hq2⟩ : ∃ q, 16 - k = q + 1 := ⟨16 - k - 1, by omega⟩
      rw [hq2, nextP, if_neg (by rw [hq.out]; omega)])
    refine go ?_
    exact ev1 (by rw [hR.out, hq.out])
  · refine go ?_
    refine go_again (k + 1) ⟨by omega, fun j hj => ?_⟩ (by omega) (by simp [AgreeL, At]) sb
    by_cases e : j = k
    · rw [e, hq.out]; omega
    · exact hall2.out j (by omega)
end

section
set_option linter.all false
set_option pp.maxSteps 100000
set_option maxRecDepth 100000
set_option maxHeartbeats 4000000
open Go.RowKit

def cntP (t : TD) (a : Int) : Int := (lx t.ps a.toNat).cnt
def ltC (t : TD) (a b : Int) : Bool := decide (cntP t b - cntP t a < 0)
def ordTo (t : TD) (i : Nat) : List Int := stS (ltC t) (natA i)
theorem ordTo_all (t : TD) : ordTo t t.ps.length = ordL t := rfl
theorem ordTo_len (t : TD) (i : Nat) : (ordTo t i).length = i := by unfold ordTo; rw [stS_len, natA_len]
theorem ordTo_mem {t : TD} {i : Nat} {x : Int} (h : x ∈ ordTo t i) : 0 ≤ x ∧ x < i := by
  have := (stS_mem _).1 h
  obtain ⟨j, hj, rfl⟩ := List.mem_map.1 this
  have := List.mem_range.1 hj
  omega
def insA (S : List Int) (x : Int) (at_ : Nat) : List Int := (S.take at_ ++ [x]) ++ S.drop at_
theorem stS_ins {c : Int → Int} {l : List Int} {x : Int} {at_ : Nat} (hs : (stS (fun a b => decide (c b - c a < 0)) l).Pairwise (fun a b => c b ≤ c a)) (ha : at_ ≤ (stS (fun a b => decide (c b - c a < 0)) l).length)
    (h1 : ∀ j, j < at_ → c x ≤ c (lx (stS (fun a b => decide (c b - c a < 0)) l) j)) (h2 : at_ < (stS (fun a b => decide (c b - c a < 0)) l).length → c (lx (stS (fun a b => decide (c b - c a < 0)) l) at_) < c x) :
    stS (fun a b => decide (c b - c a < 0)) (l ++ [x]) = insA (stS (fun a b => decide (c b - c a < 0)) l) x at_ ∧ (insA (stS (fun a b => decide (c b - c a < 0)) l) x at_).Pairwise (fun a b => c b ≤ c a) := by
  have hmono : ∀ j k, j < k → k < (stS (fun a b => decide (c b - c a < 0)) l).length → c (lx (stS (fun a b => decide (c b - c a < 0)) l) k) ≤ c (lx (stS (fun a b => decide (c b - c a < 0)) l) j) := fun j k hjk hk => by
    rw [lx_eq hk, lx_eq (by omega : j < _)]
    exact List.pairwise_iff_getElem.1 hs j k (by omega) hk hjk
  have hlen : (stS (fun a b => decide (c b - c a < 0)) l).length = (stRv (fun a b => decide (c b - c a < 0)) l).length := by simp [stS]
  have hrev : ∀ j, j < (stRv (fun a b => decide (c b - c a < 0)) l).length → lx (stRv (fun a b => decide (c b - c a < 0)) l) j = lx (stS (fun a b => decide (c b - c a < 0)) l) ((stRv (fun a b => decide (c b - c a < 0)) l).length - 1 - j) := fun j hj => by
    rw [lx_eq hj, lx_eq (by rw [hlen]; omega)]
    simp only [stS, List.getElem_reverse]
    congr 1
    omega
  constructor
  · have hi := insRv_at (lt := fun a b => decide (c b - c a < 0)) (x := x) (stRv (fun a b => decide (c b - c a < 0)) l) ((stRv (fun a b => decide (c b - c a < 0)) l).length - at_) (by omega) (fun t ht => by
      rw [hrev t (by omega)]
      have h3 := h2 (by omega)
      have h4 : c (lx (stS (fun a b => decide (c b - c a < 0)) l) ((stRv (fun a b => decide (c b - c a < 0)) l).length - 1 - t)) ≤ c (lx (stS (fun a b => decide (c b - c a < 0)) l) at_) := by
        by_cases e : (stRv (fun a b => decide (c b - c a < 0)) l).length - 1 - t = at_
        · rw [e]; exact Int.le_refl _
        · exact hmono _ _ (by omega) (by omega)
      exact decide_eq_true (by omega)) (by
      by_cases e : at_ = 0
      · exact .inl (by omega)
      · refine .inr ?_
        rw [hrev _ (by omega), show (stRv (fun a b => decide (c b - c a < 0)) l).length - 1 - ((stRv (fun a b => decide (c b - c a < 0)) l).length - at_) = at_ - 1 by omega]
        have := h1 (at_ - 1) (by omega)
        exact decide_eq_false (by omega))
    unfold stS at hlen ⊢
    rw [stRv_snoc, hi]
    unfold insA
    rw [List.reverse_append, List.reverse_cons, List.take_reverse, List.drop_reverse]
  · unfold insA
    rw [List.pairwise_append, List.pairwise_append]
    refine ⟨⟨hs.sublist (List.take_sublist _ _), by simp, fun a ha b hb => ?_⟩, hs.sublist (List.drop_sublist _ _), fun a ha b hb => ?_⟩
    · obtain rfl : b = x := by simpa using hb
      obtain ⟨j, hj, rfl⟩ := List.mem_iff_getElem.1 ha
      have hj2 : j < at_ := by simp at hj; omega
      have := h1 j hj2
      rw [lx_eq (by omega)] at this
      simpa using this
    · obtain ⟨k, hk, rfl⟩ := List.mem_iff_getElem.1 hb
      rw [List.length_drop] at hk
      have hk3 := h2 (by omega)
      have hk4 : c (lx (stS (fun a b => decide (c b - c a < 0)) l) (at_ + k)) ≤ c (lx (stS (fun a b => decide (c b - c a < 0)) l) at_) := by
        by_cases e : k = 0
        · rw [e]; exact Int.le_refl _
        · exact hmono _ _ (by omega) (by omega)
      rw [List.getElem_drop, ← lx_eq (by omega)]
      rcases List.mem_append.1 ha with ha | ha
      · obtain ⟨j, hj, rfl⟩ := List.mem_iff_getElem.1 ha
        have hj2 : j < at_ := by simp at hj; omega
        have := hmono j (at_ + k) (by omega) (by omega)
        rw [lx_eq (by omega : j < _)] at this
        simpa using this
      · obtain rfl : a = x := by simpa using ha
        omega
theorem ordTo_ins {t : TD} {i at_ : Nat} (hs : (ordTo t i).Pairwise (fun a b => cntP t b ≤ cntP t a)) (ha : at_ ≤ i) (h1 : ∀ j, j < at_ → cntP t i ≤ cntP t (lx (ordTo t i) j)) (h2 : at_ < i → cntP t (lx (ordTo t i) at_) < cntP t i) :
    ordTo t (i + 1) = insA (ordTo t i) i at_ ∧ (ordTo t (i + 1)).Pairwise (fun a b => cntP t b ≤ cntP t a) := by
  have hl := ordTo_len t i
  have := stS_ins (c := cntP t) (l := natA i) (x := (i : Int)) (at_ := at_) hs (by show at_ ≤ (ordTo t i).length; omega) h1 (fun h => h2 (by rw [← hl]; exact h))
  rw [natA_succ] at this
  exact ⟨this.1, by have e : ordTo t (i + 1) = insA (ordTo t i) i at_ := this.1
                    rw [e]; exact this.2⟩
theorem rorder2_v (t : TD) (ht : t.Ok) (w : World) (hn : t.Len) (hT : t.At w) :
    Calls Tryz.prog 106 #[.agg #[.slice t.ao t.os.length t.co, .int .i64 t.data, .int .i64 t.lines, .slice t.ap t.ps.length t.cp]] w (Ret (fun q : Option Addr × Nat => .slice q.1 (ordL t).length q.2) (fun q => [.own icell 1 3 (.slice q.1 (ordL t).length q.2) (ordL t)]) w) := by
  have hTp := hT.p
  have hp8 := ht.p1
  refine go_in Tryz.func106 rfl Tryz.ntmps106 [] [] (Mem.start _) ?_
  refine go ?_
  refine GoL.a (fun b1 => ?_)
  refine go ?_
  refine GoC.mem (fun w hw => Mem.own0 icell 1 3 hw) ?_
  refine go_loop (X := Nat × Option Addr × Nat) (fun y => y.1 ≤ t.ps.length ∧ (ordTo t y.1).Pairwise (fun a b => cntP t b ≤ cntP t a)) (fun y => t.ps.length - y.1) (fun y => [(4, .int .i64 y.1), (3, .slice y.2.1 (ordTo t y.1).length y.2.2)])
    (fun y => [.own icell 1 3 (.slice y.2.1 (ordTo t y.1).length y.2.2) (ordTo t y.1), .cells b1 [.slice t.ao t.os.length t.co, .int .i64 t.data, .int .i64 t.lines, .slice t.ap t.ps.length t.cp]]) (0, none, 0) [1, 2] ⟨Nat.zero_le _, by simp [ordTo, natA, stS, stRv]⟩ (by simp [AgreeL, At, ordTo, natA, stS, stRv]) (by simp only [ordTo, natA, stS, stRv, List.range_zero, List.map_nil, List.foldl_nil, List.reverse_nil]; exact sb) (fun y hy => ?_)
  obtain ⟨i, a1, c1⟩ := y
  obtain ⟨hi, hs⟩ := hy
  dsimp only at hi hs ⊢
  have hs2 := hid hs
  clear hs
  have hlen := hid (ordTo_len t i)
  refine go ?_
  refine go_if (fun h => ?_) (fun h => ?_)
  rotate_left
  · obtain rfl : i = t.ps.length := by omega
    refine go ?_
    exact end1 (fun w' hw => ⟨(a1, c1), rfl, hw.done sb⟩)
  have hi2 : i < t.ps.length := by omega
  have hmem : ∀ j, j < (ordTo t i).length → 0 ≤ lx (ordTo t i) j ∧ lx (ordTo t i) j < i := fun j hj => ordTo_mem (lx_mem hj)
  have hins := fun at_ => ordTo_ins (t := t) (i := i) (at_ := at_) hs2.out
  have hins2 := hid hins
  clear hins
  refine GoC.fact (p := (ordTo t i).length ≤ c1) (fun w hw => (hw.own (l := ordTo t i) pk).cap) (fun hcap => ?_)
  refine GoC.mem (H' := [.rd icell 1 a1 (ordTo t i), .cells b1 [.slice t.ao t.os.length t.co, .int .i64 t.data, .int .i64 t.lines, .slice t.ap t.ps.length t.cp]]) (fun w hw => (hw.o2r (f := icell) (l := ordTo t i) .here (fun _ => rfl)).sub sb) ?_
  have hilen : (ordTo t i).length ≤ 8 := by have := hlen.out; omega
  refine go ?_
  refine go_loop (X := Nat) (fun k => k ≤ (ordTo t i).length ∧ ∀ j, j < k → cntP t i ≤ cntP t (lx (ordTo t i) j)) (fun k => (ordTo t i).length - k) (fun k => [(5, .int .i64 k)]) (fun _ => [.rd icell 1 a1 (ordTo t i), .cells b1 [.slice t.ao t.os.length t.co, .int .i64 t.data, .int .i64 t.lines, .slice t.ap t.ps.length t.cp]]) 0 [1, 2, 3, 4] ⟨Nat.zero_le _, fun j hj => by omega⟩ (by simp [AgreeL, At]) sb (fun k hk => ?_)
  obtain ⟨hk, hall⟩ := hk
  have hall2 := hid hall
  clear hall
  by_cases hk2 : k < (ordTo t i).length
  · have hmk := hmem k hk2
    have hmk2 : lx (ordTo t i) k < (t.ps.length : Int) := by omega
    refine go ?_
    refine go_if (fun h9 => ?_) (fun h9 => ?_)
    · refine go ?_
      exact go_again (k + 1) ⟨hk2, fun j hj => by
        by_cases e : j = k
        · rw [e]; unfold cntP; simpa using h9
        · exact hall2.out j (by omega)⟩ (by omega) (by simp [AgreeL, At]) sb
    · have hres := hid (hins2.out k (by have := hlen.out; omega) hall2.out (fun _ => by unfold cntP; simp only [Int.toNat_natCast]; omega))
      clear h9
      refine go ?_
      have hk9 : k ≤ 8 := by omega
      refine D.e0 [] [] (fun X F => Ef.lit (f := icell) (m := 1) (e := 3) [] (fun _ => rfl) rfl) ?_
      refine go ?_
      refine D.e0 [] [0] (fun X F => Ef.appU (f := icell) (m := 1) (e := 3) (l := []) (l2 := (ordTo t i).take k) elI (fun _ => rfl) icell_one (by simp only [List.length_nil, List.length_take]; omega) Pick.here (fun w hw => (hw.rd (l := ordTo t i) pk).take k)) ?_
      refine go ?_
      refine D.e0 [] [] (fun X F => Ef.lit (f := icell) (m := 1) (e := 3) [(i : Int)] (fun _ => rfl) rfl) ?_
      refine D.e0 [] [4, 6] (fun X F => Ef.appT (f := icell) (m := 1) (e := 3) (e2 := 3) (l := (ordTo t i).take k) (l2 := [(i : Int)]) elI (fun _ => rfl) icell_one (by simp only [List.length_cons, List.length_nil, List.length_take]; omega) Pick.here Pick.here) ?_
      refine go ?_
      refine D.nil [(7, fun X => .sl icell 1 3 ((ordTo t i).take k ++ [(i : Int)]) (X 7))] (fun X => GoL.slo fun a7 c7 hv => ?_) (hchk := by show chkDD _ _ 0 [7] = true; decide +kernel)
      rw [show (0 + 1 + 1 + 1 + 1 + 1 + 1 + 1 : Nat) = 7 from rfl, hv]
      clear hv
      refine GoL.sl (Ef.app (f := icell) (l := (ordTo t i).take k ++ [(i : Int)]) (l2 := (ordTo t i).drop k) (v := .slice a7 ((ordTo t i).take k ++ [(i : Int)]).length c7) elI (fun _ => rfl) icell_one (by simp only [List.length_append, List.length_cons, List.length_nil, List.length_drop, List.length_take]; omega) pk (fun w hw => (hw.rd (l := ordTo t i) pk).drop k hcap)) (fun a8 c8 => ?_)
      rw [show (ordTo t i).take k ++ [(i : Int)] ++ (ordTo t i).drop k = ordTo t (i + 1) from hres.out.1.symm]
      refine go ?_
      exact go_again (i + 1, a8, c8) ⟨hi2, hres.out.2⟩ (by simp only; omega) (by simp [AgreeL, At]) sb
  · have hk3 : k = (ordTo t i).length := by omega
    have hres := hid (hins2.out k (by have := hlen.out; omega) hall2.out (fun h => by have := hlen.out; omega))
    clear hk3
    refine go ?_
    have hk9 : k ≤ 8 := by omega
    refine D.e0 [] [] (fun X F => Ef.lit (f := icell) (m := 1) (e := 3) [] (fun _ => rfl) rfl) ?_
    refine go ?_
    refine D.e0 [] [0] (fun X F => Ef.appU (f := icell) (m := 1) (e := 3) (l := []) (l2 := (ordTo t i).take k) elI (fun _ => rfl) icell_one (by simp only [List.length_nil, List.length_take]; omega) Pick.here (fun w hw => (hw.rd (l := ordTo t i) pk).take k)) ?_
    refine go ?_
    refine D.e0 [] [] (fun X F => Ef.lit (f := icell) (m := 1) (e := 3) [(i : Int)] (fun _ => rfl) rfl) ?_
    refine D.e0 [] [4, 6] (fun X F => Ef.appT (f := icell) (m := 1) (e := 3) (e2 := 3) (l := (ordTo t i).take k) (l2 := [(i : Int)]) elI (fun _ => rfl) icell_one (by simp only [List.length_cons, List.length_nil, List.length_take]; omega) Pick.here Pick.here) ?_
    refine go ?_
    refine D.nil [(7, fun X => .sl icell 1 3 ((ordTo t i).take k ++ [(i : Int)]) (X 7))] (fun X => GoL.slo fun a7 c7 hv => ?_) (hchk := by show chkDD _ _ 0 [7] = true; decide +kernel)
    rw [show (0 + 1 + 1 + 1 + 1 + 1 + 1 + 1 : Nat) = 7 from rfl, hv]
    clear hv
    refine GoL.sl (Ef.app (f := icell) (l := (ordTo t i).take k ++ [(i : Int)]) (l2 := (ordTo t i).drop k) (v := .slice a7 ((ordTo t i).take k ++ [(i : Int)]).length c7) elI (fun _ => rfl) icell_one (by simp only [List.length_append, List.length_cons, List.length_nil, List.length_drop, List.length_take]; omega) pk (fun w hw => (hw.rd (l := ordTo t i) pk).drop k hcap)) (fun a8 c8 => ?_)
    rw [show (ordTo t i).take k ++ [(i : Int)] ++ (ordTo t i).drop k = ordTo t (i + 1) from hres.out.1.symm]
    refine go ?_
    exact go_again (i + 1, a8, c8) ⟨hi2, hres.out.2⟩ (by simp only; omega) (by simp [AgreeL, At]) sb
end

section
set_option linter.all false
set_option pp.maxSteps 100000
set_option maxRecDepth 100000
set_option maxHeartbeats 4000000
open Go.RowKit

def tup2 (v : Value) (i : Nat) : Value := match v with | .tuple a => a.getD i undef | _ => undef
theorem tup2_0 (a b : Value) : tup2 (.tuple #[a, b]) 0 = a := rfl
theorem tup2_1 (a b : Value) : tup2 (.tuple #[a, b]) 1 = b := rfl
section
variable {w0 : World} {Bs : List Nat} {P : Program} {n : Nat} {L : List (Nat × Value)} {H : List En} {u v : Value} {d : Nat} {ty : TypeId} {pos : String} {af : Array Edge} {gd : Option (Nat × Bool)} {x : Operand} {ops : Array Oper} {K : (Nat → Value) → World → Prop} {os : List Oper}
theorem Ef.x0 {vt : Value} (hx : ∀ g, evF n (tab L g) x = vt) (hv : ∀ w, Mem w0 Bs H w → ∃ a b, vt = .tuple #[a, b]) : Ef w0 Bs P n ⟨some d, .extract x 0, ty, pos, af, gd⟩ L H (fun v => .pure (v = tup2 vt 0)) H := fun g w hw => by
  obtain ⟨a, b, rfl⟩ := hv w hw
  have : (execOp (evF n (tab L g)) ⟨some d, .extract x 0, ty, pos, af, gd⟩).run P w = .ok (.value a) w := by
    have hx' := hx g
    go_simp
  unfold opF; rw [this]
  exact Mem.pureI rfl hw
theorem Ef.x1 {vt : Value} (hx : ∀ g, evF n (tab L g) x = vt) (hv : ∀ w, Mem w0 Bs H w → ∃ a b, vt = .tuple #[a, b]) : Ef w0 Bs P n ⟨some d, .extract x 1, ty, pos, af, gd⟩ L H (fun v => .pure (v = tup2 vt 1)) H := fun g w hw => by
  obtain ⟨a, b, rfl⟩ := hv w hw
  have : (execOp (evF n (tab L g)) ⟨some d, .extract x 1, ty, pos, af, gd⟩).run P w = .ok (.value b) w := by
    have hx' := hx g
    go_simp
  unfold opF; rw [this]
  exact Mem.pureI rfl hw
theorem GoL.rt {X : Type} {val : X → Value} {E : X → List En} (hr : ∀ q, v = val q → GoL w0 Bs P ops n K os L (E q ++ H)) : GoL w0 Bs P ops n K os L (.rt val E v :: H) := .mk fun g w hw => by
  obtain ⟨q, h1, h2⟩ := hw.rtE
  exact (hr q h1).go g w h2
end
end

section
set_option linter.all false
set_option pp.maxSteps 100000
set_option maxRecDepth 100000
set_option maxHeartbeats 4000000
open Go.RowKit

theorem fillI_eq {i : Nat} {A : Int} : ∀ (k : Nat) (lay : List Int) (a : Int), i < lay.length → lx lay i < 0 → 0 ≤ a → a ≤ A → A ∉ lay → (∀ q, 0 ≤ q → q < A → q ∈ lay) → A + 2 ≤ a + k → (fillI i k lay a).1 = lay.set i A
  | 0, lay, a, _, _, _, ha, _, _, hk => by omega
  | k + 1, lay, a, hi, hneg, h0, ha, hA, hq, hk => by
    unfold fillI
    rw [if_pos hneg]
    by_cases hm : a ∈ lay
    · rw [if_pos hm]
      have hne : a ≠ A := fun e => hA (e ▸ hm)
      exact fillI_eq k lay (a + 1) hi hneg (by omega) (by omega) hA hq (by omega)
    · have e : a = A := Classical.byContradiction fun hne => hm (hq a h0 (by omega))
      subst e
      rw [if_neg hm]
      obtain ⟨k', rfl⟩ : ∃ k', k = k' + 1 := ⟨k - 1, by omega⟩
      unfold fillI
      rw [if_neg (by rw [lx_set hi]; omega)]
theorem fill_step {t : TD} (ht : t.Ok) {k : Nat} (hk : k < t.os.length + t.data.toNat) : (0 ≤ lx (flTo t k).1 k → (flTo t (k + 1)).1 = (flTo t k).1) ∧
    (lx (flTo t k).1 k < 0 → ∃ A : Nat, A < t.os.length + t.data.toNat ∧ (A : Int) ∉ (flTo t k).1 ∧ (∀ q : Int, 0 ≤ q → q < A → q ∈ (flTo t k).1) ∧ (flTo t (k + 1)).1 = (flTo t k).1.set k A) := by
  obtain ⟨h1, h2, h3, h4⟩ := flTo_ok ht k (by omega)
  have hn := ht.n1
  have hd := ht.d1
  refine ⟨fun h => ?_, fun hneg => ?_⟩
  · show (fillI k 100 (flTo t k).1 (flTo t k).2).1 = _
    unfold fillI
    rw [if_neg (by omega)]
  · have hex : ∃ z : Nat, z < t.os.length + t.data.toNat ∧ (z : Int) ∉ (flTo t k).1 := by
      obtain ⟨z, g1, g2, g3⟩ := some_free (lay := (flTo t k).1) (m := t.os.length + t.data.toNat) (by rw [h1.len]; exact Nat.le_refl _) (i := k) (by rw [h1.len]; exact hk) hneg
      exact ⟨z.toNat, by omega, by rw [Int.toNat_of_nonneg g1]; exact g3⟩
    have hmin : ∀ m : Nat, (∃ z : Nat, z < m ∧ (z : Int) ∉ (flTo t k).1) → ∃ A : Nat, A < m ∧ (A : Int) ∉ (flTo t k).1 ∧ ∀ q : Int, 0 ≤ q → q < A → q ∈ (flTo t k).1 := by
      intro m
      induction m with
      | zero => rintro ⟨z, hz, _⟩; omega
      | succ m ih =>
        rintro ⟨z, hz, hz2⟩
        by_cases h : ∃ z : Nat, z < m ∧ (z : Int) ∉ (flTo t k).1
        · obtain ⟨A, a1, a2, a3⟩ := ih h; exact ⟨A, by omega, a2, a3⟩
        · have e : z = m := Classical.byContradiction fun hne => h ⟨z, by omega, hz2⟩
          subst e
          exact ⟨z, by omega, hz2, fun q q1 q2 => Classical.byContradiction fun hq => h ⟨q.toNat, by omega, by rw [Int.toNat_of_nonneg q1]; exact hq⟩⟩
    obtain ⟨A, a1, a2, a3⟩ := hmin _ hex
    refine ⟨A, a1, a2, a3, ?_⟩
    have hle : (flTo t k).2 ≤ A := Classical.byContradiction fun h => a2 (h4 A (by omega) (by omega))
    exact fillI_eq 100 (flTo t k).1 (flTo t k).2 (by rw [h1.len]; exact hk) hneg h3 hle a2 a3 (by push_cast; omega)
theorem free_at {lay : List Int} {lines : Int} (hl : 1 ≤ lines ∧ lines ≤ 8) {A : Nat} (hA : (A : Int) < lines * 16) (h1 : (A : Int) ∉ lay) (h2 : ∀ q : Int, 0 ≤ q → q < A → q ∈ lay) : ∀ a : Nat, a ≤ A → (freeP lay lines (a % 16) = (a : Int) ↔ a = A) := by
  intro a ha
  have hp : a % 16 < 16 := Nat.mod_lt _ (by decide)
  constructor
  · intro h
    refine Classical.byContradiction fun hne => ?_
    rcases freeP_spec (lay := lay) hl hp with ⟨g1, _⟩ | ⟨_, _, _, g4, _⟩
    · omega
    · rw [h] at g4; exact g4 (h2 a (by omega) (by omega))
  · intro e
    subst e
    rcases freeP_spec (lay := lay) hl hp with ⟨_, g2⟩ | ⟨g1, g2, g3, g4, g5⟩
    · exact absurd (g2 a (by omega) hA (by omega)) h1
    · rcases Int.lt_trichotomy (freeP lay lines (a % 16)) a with h | h | h
      · exact absurd (h2 _ g1 h) g4
      · exact h
      · exact absurd (g5 a (by omega) h (by omega)) h1
def inT (n i : Nat) : List Int := List.replicate i (-1) ++ List.replicate (n - i) 0
theorem inT_len {n i : Nat} (h : i ≤ n) : (inT n i).length = n := by unfold inT; simp; omega
theorem inT_set {n i : Nat} (h : i < n) : (inT n i).set i (-1) = inT n (i + 1) := by
  unfold inT
  obtain ⟨m, hm⟩ : ∃ m, n - i = m + 1 := ⟨n - i - 1, by omega⟩
  rw [hm, show n - (i + 1) = m by omega, List.set_append_right _ _ (by simp), List.length_replicate, Nat.sub_self, List.replicate_succ, List.set_cons_zero, List.replicate_succ' (n := i)]
  simp
theorem inT_n (n : Nat) : inT n n = List.replicate n (-1) := by unfold inT; simp
theorem evs_path {t : TD} {i : Nat} (hi : i < t.ps.length) : evsE t i = pathE t.os (lx t.ps i).os := by unfold evsE openE; rw [lx_map hi]
theorem rlaid_v (t : TD) (ht : t.Ok) (w : World) (hn : t.Len) (hT : t.At w) :
    Calls Tryz.prog 64 #[.agg #[.slice t.ao t.os.length t.co, .int .i64 t.data, .int .i64 t.lines, .slice t.ap t.ps.length t.cp]] w (Ret (fun g : Nat => .slice (some ⟨g, 0, none⟩) (t.os.length + t.data.toNat) (t.os.length + t.data.toNat)) (fun g => [.cells g (ic (laidL t))]) w) := by
  have hTp := hT.p
  have hp8 := ht.p1
  have hd1 := ht.d1
  have hn1 := ht.n1
  have hl1 := ht.l1
  have hit := ht.it
  obtain ⟨n, hN⟩ : ∃ n : Nat, n = t.os.length + t.data.toNat := ⟨_, rfl⟩
  have hN2 := hid (show (t.os.length : Int) + t.data = (n : Int) by omega)
  have hn40 : 1 ≤ n ∧ n ≤ 40 := by omega
  have hnl : (n : Int) ≤ t.lines * 16 := by omega
  rw [← hN]
  have hN3 := hid hN
  clear hN hit
  refine go_in Tryz.func64 rfl Tryz.ntmps64 [] [] (Mem.start _) ?_
  refine go ?_
  refine GoL.a (fun b1 => ?_)
  refine go ?_
  refine GoL.cv (fun w' hw => items_ref t w' hn hd1 hn1.2) ?_
  rw [hN2.out]
  refine GoL.mks (f := icell) rfl elI elI' (k := n) (by omega) (fun g => ?_)
  rw [show List.replicate n (0 : Int) = inT n 0 by simp [inT]]
  refine go ?_
  refine go_loop (X := Nat) (fun k => k ≤ n) (fun k => n - k) (fun k => [(4, .int .i64 k)]) (fun k => [.cells g (ic (inT n k)), .cells b1 [.slice t.ao t.os.length t.co, .int .i64 t.data, .int .i64 t.lines, .slice t.ap t.ps.length t.cp]]) 0 [1, 2, 3] (Nat.zero_le _) (by simp [AgreeL, At]) sb (fun k hk => ?_)
  have HIL := hid (inT_len hk)
  refine go ?_
  refine go_if (fun h => ?_) (fun h => ?_)
  · have hk2 : k < n := by omega
    refine go ?_
    refine GoL.sa (b := g) (l := inT n k) (i := k) (z := -1) rp (by have := HIL.out; omega) ?_
    rw [inT_set hk2]
    refine go ?_
    exact go_again (k + 1) hk2 (by omega) (by simp [AgreeL, At]) sb
  obtain rfl : k = n := by omega
  rw [inT_n]
  clear HIL h
  have hly0 := hid (show List.replicate k (-1) = lyTo t 0 by rw [hN3.out]; rfl)
  rw [hly0.out]
  refine go ?_
  refine GoL.c (fun w' hw => rorder2_v t ht w' hn (hT.old hw)) (fun q => ?_)
  obtain ⟨a5, c5⟩ := q
  dsimp only
  refine GoL.mem (H' := [.cells g (ic (lyTo t 0)), .rd icell 1 a5 (ordL t), .cells b1 [.slice t.ao t.os.length t.co, .int .i64 t.data, .int .i64 t.lines, .slice t.ap t.ps.length t.cp]]) (fun w hw => (hw.o2r (f := icell) (l := ordL t) .here (fun _ => rfl)).sub sb) ?_
  have hol := hid (show (ordL t).length = t.ps.length by rw [← ordTo_all, ordTo_len])
  have hol8 : (ordL t).length ≤ 8 := by have := hol.out; omega
  have hom : ∀ j, j < (ordL t).length → 0 ≤ lx (ordL t) j ∧ lx (ordL t) j < (t.ps.length : Int) := fun j hj => ordL_mem (by have := hol.out; omega)
  have hop : ∀ j, j < (ordL t).length → LayI k t.lines (lyTo t j) := fun j hj => by
    have := lyTo_ok ht j (by have := hol.out; omega)
    rw [hN3.out]; exact this
  refine go ?_
  refine go_loop (X := Nat) (fun j => j ≤ (ordL t).length) (fun j => (ordL t).length - j) (fun j => [(6, .int .i64 j)]) (fun j => [.cells g (ic (lyTo t j)), .rd icell 1 a5 (ordL t), .cells b1 [.slice t.ao t.os.length t.co, .int .i64 t.data, .int .i64 t.lines, .slice t.ap t.ps.length t.cp]]) 0 [1, 2, 3, 5] (Nat.zero_le _) (by simp [AgreeL, At]) sb (fun j hj => ?_)
  refine go ?_
  refine go_if (fun h => ?_) (fun h => ?_)
  · have hj2 : j < (ordL t).length := by omega
    have hoj := hom j hj2
    have hLj := hop j hj2
    have hlt : (lx (ordL t) j).toNat < t.ps.length := by omega
    refine go ?_
    refine D.c (fun F w' hw => revents_ok t ht (lx t.ps (lx (ordL t) j).toNat) (lx_mem hlt) w' hn (hT.old hw)) ?_
    refine D.e (A := fun ds v => .pure (v = ds.headD undef)) [9] [] [] (fun X F => Ef.pq) ?_
    have hxt : ∀ (X : Nat → Value) (F : List En) (w1 : World) (H1 : List En), Mem w [] (.rt (fun q : (Option Addr × Nat) × (Option Addr × Nat) => .tuple #[.slice q.1.1 (evI (pathE t.os (lx t.ps (lx (ordL t) j).toNat).os)).length q.1.2, .slice q.2.1 (evA (pathE t.os (lx t.ps (lx (ordL t) j).toNat).os)).length q.2.2]) (fun q => [.own icell 1 3 (.slice q.1.1 (evI (pathE t.os (lx t.ps (lx (ordL t) j).toNat).os)).length q.1.2) (evI (pathE t.os (lx t.ps (lx (ordL t) j).toNat).os)), .own fcell 1 4 (.slice q.2.1 (evA (pathE t.os (lx t.ps (lx (ordL t) j).toNat).os)).length q.2.2) (evA (pathE t.os (lx t.ps (lx (ordL t) j).toNat).os))]) (X 9) :: .pure (X 10 = X 9) :: H1) w1 → ∃ a b, X 10 = .tuple #[a, b] := fun X F w1 H1 h => by
      obtain ⟨q, h1, h2⟩ := h.rtE
      have h3 : Mem w [] (.pure (X 10 = X 9) :: H1) w1 := h2.sub (Sub.tl (Sub.tl (Sub.refl _)))
      exact ⟨_, _, h3.pures.1.trans h1⟩
    refine D.e (A := fun ds v => .pure (v = tup2 (ds.headD undef) 0)) [10] [9, 10] [] (fun X F => Ef.x0 (fun g => by simp only [evF_tmp, tab_cons, Nat.reduceLT, Nat.reduceEqDiff, ↓reduceIte]; rfl) (fun w1 hw => hxt X F w1 _ hw)) ?_
    refine D.e (A := fun ds v => .pure (v = tup2 (ds.headD undef) 1)) [10] [9, 10] [] (fun X F => Ef.x1 (fun g => by simp only [evF_tmp, tab_cons, Nat.reduceLT, Nat.reduceEqDiff, ↓reduceIte]; rfl) (fun w1 hw => hxt X F w1 _ hw)) ?_
    clear hxt
    refine D.e (A := fun ds v => .pure (v = ds.headD undef)) [11] [] [] (fun X F => Ef.pq) ?_
    refine D.nil [(10, fun X => .pure (X 10 = X 9)), (11, fun X => .pure (X 11 = tup2 (X 10) 0)), (12, fun X => .pure (X 12 = tup2 (X 10) 1)), (13, fun X => .pure (X 13 = X 11)), (9, fun X => .rt (fun q : (Option Addr × Nat) × (Option Addr × Nat) => .tuple #[.slice q.1.1 (evI (pathE t.os (lx t.ps (lx (ordL t) j).toNat).os)).length q.1.2, .slice q.2.1 (evA (pathE t.os (lx t.ps (lx (ordL t) j).toNat).os)).length q.2.2]) (fun q => [.own icell 1 3 (.slice q.1.1 (evI (pathE t.os (lx t.ps (lx (ordL t) j).toNat).os)).length q.1.2) (evI (pathE t.os (lx t.ps (lx (ordL t) j).toNat).os)), .own fcell 1 4 (.slice q.2.1 (evA (pathE t.os (lx t.ps (lx (ordL t) j).toNat).os)).length q.2.2) (evA (pathE t.os (lx t.ps (lx (ordL t) j).toNat).os))]) (X 9))] (fun X => GoL.pure fun h10 => GoL.pure fun h11 => GoL.pure fun h12 => GoL.pure fun h13 => GoL.rt fun q h9 => ?_) (hchk := by show chkDD _ _ 0 [10, 11, 12, 13, 9] = true; decide +kernel)
    obtain ⟨⟨a7, c7⟩, a8, c8⟩ := q
    dsimp only at h9 ⊢
    simp only [Nat.reduceAdd, h13, h12, h11, h10, h9, tup2_0, tup2_1]
    clear h13 h12 h11 h10 h9 X
    refine go ?_
    have hes := hid (evs_path hlt)
    have hio : ∀ v ∈ pathE t.os (lx t.ps (lx (ordL t) j).toNat).os, 0 ≤ v.item ∧ v.item < (k : Int) := by
      rw [← hes.out, hN3.out]; exact evsE_item ht hlt
    have hly := hid (show lyTo t (j + 1) = (evTo t.lines (evsE t (lx (ordL t) j).toNat) (lyTo t j) (evsE t (lx (ordL t) j).toNat).length).1 from rfl)
    have hev := fun m hm => hid (evTo_ok (lay := lyTo t j) hl1 hnl hLj hio m hm)
    have hpl := hid (pathE_len t.os (lx t.ps (lx (ordL t) j).toNat).os (wildL_ok (ht.w _ (lx_mem hlt))).1.2)
    rw [hes.out] at hly
    generalize pathE t.os (lx t.ps (lx (ordL t) j).toNat).os = es at *
    have hIl := hid (evI_len es)
    have hI93 : (evI es).length ≤ 93 := by rw [evI_len]; exact hpl.out.2
    have hIx := fun m (hm : m < es.length) => hid (show lx (evI es) m = (lx es m).item from lx_map hm)
    have hIr : ∀ m, m < (evI es).length → 0 ≤ lx (evI es) m ∧ lx (evI es) m < (k : Int) := fun m hm => by
      rw [evI_len] at hm; rw [(hIx m hm).out]; exact hio _ (lx_mem hm)
    refine GoC.mem (H' := [.rd icell 1 a7 (evI es), .cells g (ic (lyTo t j)), .rd icell 1 a5 (ordL t), .cells b1 [.slice t.ao t.os.length t.co, .int .i64 t.data, .int .i64 t.lines, .slice t.ap t.ps.length t.cp]]) (fun w hw => (hw.o2r (f := icell) (l := evI es) .here (fun _ => rfl)).sub sb) ?_
    refine go_loop (X := Nat) (fun m => m ≤ (evI es).length) (fun m => (evI es).length - m) (fun m => [(10, .int .i64 m), (9, .int .i64 ((evTo t.lines es (lyTo t j) m).2 : Nat))]) (fun m => [.rd icell 1 a7 (evI es), .cells g (ic (evTo t.lines es (lyTo t j) m).1), .rd icell 1 a5 (ordL t), .cells b1 [.slice t.ao t.os.length t.co, .int .i64 t.data, .int .i64 t.lines, .slice t.ap t.ps.length t.cp]]) 0 [1, 2, 3, 5, 6, 7] (Nat.zero_le _) (by simp [AgreeL, At, evTo]) (by simp only [evTo]; exact sb) (fun m hm => ?_)
    have hst := hid (show evTo t.lines es (lyTo t j) (m + 1) = stepLay t.lines (evTo t.lines es (lyTo t j) m) (lx es m) from rfl)
    have hev2 := hev m (by have := hIl.out; omega)
    by_cases hm2 : m < (evI es).length
    · have hme : m < es.length := by have := hIl.out; omega
      obtain ⟨g1, g2⟩ := hev2.out
      have hlen := hid g1.len
      have hrm := hIr m hm2
      have hxm := hIx m hme
      clear hIx
      have hvi : 0 ≤ (lx es m).item ∧ (lx es m).item < (k : Int) := hio _ (lx_mem hme)
      have hok := hid (stepLay_ok (s := evTo t.lines es (lyTo t j) m) (v := lx es m) hl1 hnl g1 g2 hvi)
      have hpo := hid (stepLay_pl (lines := t.lines) (s := evTo t.lines es (lyTo t j) m) (v := lx es m) (by rw [g1.len]; omega))
      have hfr := fun h => place_free (lay := (evTo t.lines es (lyTo t j) m).1) hl1 hnl g1.len (i := (lx es m).item.toNat) (by omega) h g2
      clear g1 hev2
      generalize evTo t.lines es (lyTo t j) m = s at *
      obtain ⟨S, P⟩ := s
      dsimp only at *
      have hvi2 : (lx (evI es) m).toNat < S.length := by have := hlen.out; omega
      clear hvi
      have hS' := hid (show stepLay t.lines (S, P) (lx es m) = if lx S (lx (evI es) m).toNat < 0 then (S.set (lx (evI es) m).toNat (lx (freeL S t.lines) (nextP (freeL S t.lines) 16 P)), ((lx (freeL S t.lines) (nextP (freeL S t.lines) 16 P) + 1) % 16).toNat) else (S, ((lx S (lx (evI es) m).toNat + 1) % 16).toNat) by
        rw [hxm.out]; rfl)
      rw [← hxm.out] at hok hpo hfr
      generalize stepLay t.lines (S, P) (lx es m) = s' at *
      obtain ⟨S', P'⟩ := s'
      dsimp only at *
      refine go ?_
      refine GoL.q ⟨_, Ex.la (b := g) (l := S) (i := (lx (evI es) m).toNat) (fun w hw => hw.cells pk) hvi2, ?_⟩
      refine go ?_
      refine go_join [(1, .pointer (some ⟨b1, 0, none⟩)), (2, .slice none 0 0), (3, .slice (some ⟨g, 0, none⟩) k k), (5, .slice a5 (ordL t).length c5), (6, .int .i64 j), (7, .slice a7 (evI es).length c7), (10, .int .i64 m)]
        [.rd icell 1 a7 (evI es), .cells g (ic S'), .rd icell 1 a5 (ordL t), .cells b1 [.slice t.ao t.os.length t.co, .int .i64 t.data, .int .i64 t.lines, .slice t.ap t.ps.length t.cp]] ?_ ?_
      · refine go_if (fun h => ?_) (fun h => ?_)
        · have hneg : lx S (lx (evI es) m).toNat < 0 := by simpa using h
          have hx2 := hS'.out
          rw [if_pos hneg] at hx2
          simp only [Prod.mk.injEq] at hx2
          have hSS := hid hx2.1
          have hf := hid (hfr hneg)
          clear hx2 h hneg
          have hfrom := fun w' (h1 : Rd icell 1 w' (some ⟨g, 0, none⟩) S) => rfromP_v t S (some ⟨g, 0, none⟩) k P w' hn hl1 h1 (by rw [hlen.out]; omega) g2 hf.out
          rw [hlen.out] at hfrom
          have hfrom2 := hid hfrom
          clear hfrom
          refine go ?_
          refine D.cv (fun F w' hw => hfrom2.out w' (rdC (hw.cells pk))) ?_
          generalize lx (freeL S t.lines) (nextP (freeL S t.lines) 16 P) = z at *
          refine go ?_
          refine GoL.sa (b := g) (l := S) (i := (lx (evI es) m).toNat) (z := z) rp hvi2 ?_
          rw [← hSS.out]
          refine go ?_
          exact xj_n (by simp [AgreeL, At]) sb
        · have hneg : ¬ lx S (lx (evI es) m).toNat < 0 := by simpa using h
          have hx2 := hS'.out
          rw [if_neg hneg] at hx2
          simp only [Prod.mk.injEq] at hx2
          have hSS := hid hx2.1
          clear hx2 h hneg
          refine go ?_
          rw [hSS.out]
          exact xj_n (by simp [AgreeL, At]) sb
      obtain ⟨k1, k2, _, k4⟩ := hok.out
      have hlen2 := hid k1.len
      have hv2 : (lx (evI es) m).toNat < S'.length := by rw [k1.len]; omega
      have hvr : lx S' (lx (evI es) m).toNat < 128 := by have := k1.rg _ (lx_mem hv2); omega
      have hpo2 := hid (show (lx S' (lx (evI es) m).toNat + 1) % 16 = (P' : Int) by rw [hpo.out]; omega)
      clear k1 k2
      refine go ?_
      refine GoL.q ⟨_, Ex.la (b := g) (l := S') (i := (lx (evI es) m).toNat) (fun w hw => hw.cells pk) hv2, ?_⟩
      refine go ?_
      rw [hpo2.out]
      refine go_again (m + 1) hm2 (by omega) (by rw [hst.out]; simp [AgreeL, At]) ?_
      rw [hst.out]
      exact sb
    · have hm9 : m = (evI es).length := by omega
      have hR := hid (show (evTo t.lines es (lyTo t j) m).1 = lyTo t (j + 1) by rw [hly.out, hm9, hIl.out])
      clear hm9
      refine go ?_
      rw [hR.out]
      refine go ?_
      exact go_again (j + 1) hj2 (by omega) (by simp [AgreeL, At]) sb
  have hj9 : j = (ordL t).length := by omega
  have h0 := hid (show lyTo t j = (flTo t 0).1 by rw [hj9, hol.out]; rfl)
  clear hj9 h
  rw [h0.out]
  have hFS := fun m (hm : m < k) => hid (fill_step ht (k := m) (by rw [← hN3.out]; exact hm))
  have hFO := fun m (hm : m ≤ k) => hid (show LayI k t.lines (flTo t m).1 from by
    have := (flTo_ok ht m (by rw [← hN3.out]; exact hm)).1
    rw [← hN3.out] at this
    exact this)
  have hLL := hid (show (flTo t k).1 = laidL t by unfold laidL; rw [← hN3.out])
  refine go ?_
  refine go_loop (X := Nat) (fun m => m ≤ k) (fun m => k - m) (fun m => [(11, .int .i64 m)]) (fun m => [.cells g (ic (flTo t m).1), .cells b1 [.slice t.ao t.os.length t.co, .int .i64 t.data, .int .i64 t.lines, .slice t.ap t.ps.length t.cp]]) 0 [1, 2, 3] (Nat.zero_le _) (by simp [AgreeL, At]) sb (fun m hm => ?_)
  refine go ?_
  refine go_if (fun h => ?_) (fun h => ?_)
  rotate_left
  · obtain rfl : m = k := by omega
    refine go ?_
    refine end1 (fun w' hw => ⟨g, rfl, ?_⟩)
    rw [← hLL.out]
    exact hw.done sb
  have hmk : m < k := by omega
  have hf1 := hFS m hmk
  have ho1 := hFO m (by omega)
  generalize (flTo t m).1 = F at *
  have hFl := hid ho1.out.len
  have hmF : m < F.length := by have := hFl.out; omega
  clear h0 hLL
  by_cases hneg : lx F m < 0
  rotate_left
  · have hR := hid (hf1.out.1 (by omega))
    clear hf1
    refine go ?_
    refine go_loop (X := Unit) (fun _ => True) (fun _ => 0) (fun _ => []) (fun _ => [.cells g (ic F), .cells b1 [.slice t.ao t.os.length t.co, .int .i64 t.data, .int .i64 t.lines, .slice t.ap t.ps.length t.cp]]) () [1, 2, 3, 11] trivial (by simp [AgreeL, At]) sb (fun _ _ => ?_)
    refine go ?_
    refine GoL.q ⟨_, Ex.la (b := g) (l := F) (i := m) (fun w hw => hw.cells pk) hmF, ?_⟩
    refine go ?_
    refine go_again (m + 1) hmk (by omega) (by simp [AgreeL, At]) ?_
    rw [hR.out]
    exact sb
  obtain ⟨A, a1, a2, a3, a4⟩ := hf1.out.2 hneg
  have hA40 : A < 40 := by rw [← hN3.out] at a1; omega
  have hAl : (A : Int) < t.lines * 16 := by rw [← hN3.out] at a1; omega
  have hfa := hid (free_at (lines := t.lines) hl1 hAl a2 a3)
  have hR := hid a4
  clear a1 a2 a3 a4 hf1
  refine go ?_
  refine go_loop (X := Nat × Bool) (fun y => (y.2 = false → y.1 ≤ A) ∧ (y.2 = true → y.1 = A + 1)) (fun y => A + 2 - y.1) (fun y => [(12, .int .i64 y.1)]) (fun y => [.cells g (ic (if y.2 = true then F.set m A else F)), .cells b1 [.slice t.ao t.os.length t.co, .int .i64 t.data, .int .i64 t.lines, .slice t.ap t.ps.length t.cp]]) (0, false) [1, 2, 3, 11] ⟨fun _ => Nat.zero_le _, fun h => by cases h⟩ (by simp [AgreeL, At]) (by first | exact sb | (simp only [Bool.false_eq_true, if_false]; exact sb)) (fun y hy => ?_)
  obtain ⟨a, B⟩ := y
  cases B with
  | true =>
    have ha : a = A + 1 := hy.2 rfl
    simp only [if_true]
    have hlx : ¬ lx (F.set m A) m < 0 := by rw [lx_set hmF]; omega
    have hmS : m < (F.set m A).length := by rw [List.length_set]; exact hmF
    clear ha hy
    generalize F.set m A = F2 at *
    refine go ?_
    refine GoL.q ⟨_, Ex.la (b := g) (l := F2) (i := m) (fun w hw => hw.cells pk) hmS, ?_⟩
    refine go ?_
    refine go_again (m + 1) hmk (by omega) (by simp [AgreeL, At]) ?_
    rw [hR.out]
    exact sb
  | false =>
    have ha : a ≤ A := hy.1 rfl
    simp only [Bool.false_eq_true, if_false]
    have hm16 : a % 16 < 16 := Nat.mod_lt _ (by decide)
    have hmod := hid (show (a : Int) % 16 = ((a % 16 : Nat) : Int) by omega)
    have hfree := fun w' (h1 : Rd icell 1 w' (some ⟨g, 0, none⟩) F) => rfree_v t F (some ⟨g, 0, none⟩) k (a % 16) w' hn hl1 h1 (by rw [hFl.out]; omega) hm16
    rw [hFl.out] at hfree
    have hfree2 := hid hfree
    have hfa1 := hid (hfa.out a ha)
    clear hfree hy
    refine go ?_
    refine GoL.q ⟨_, Ex.la (b := g) (l := F) (i := m) (fun w hw => hw.cells pk) hmF, ?_⟩
    refine go ?_
    rw [hmod.out]
    refine GoL.cv (fun w' hw => hfree2.out w' (rdC (hw.cells pk))) ?_
    generalize freeP F t.lines (a % 16) = z at *
    refine go ?_
    refine go_if (fun h9 => ?_) (fun h9 => ?_)
    · have hzA : a = A := hfa1.out.1 h9
      subst hzA
      clear h9
      refine go ?_
      refine GoL.sa (b := g) (l := F) (i := m) (z := (a : Int)) rp hmF ?_
      refine go ?_
      exact go_again (a + 1, true) ⟨fun h => (by cases h), fun _ => rfl⟩ (by first | omega | (simp only; omega)) (by simp [AgreeL, At]) (by first | exact sb | (simp only [if_true]; exact sb))
    · have hzA : a ≠ A := fun e => by
        have := hfa1.out.2 e
        exact h9 this
      clear h9
      refine go ?_
      exact go_again (a + 1, false) ⟨fun _ => (by first | omega | (simp only; omega)), fun h => (by cases h)⟩ (by first | omega | (simp only; omega)) (by simp [AgreeL, At]) (by first | exact sb | (simp only [Bool.false_eq_true, if_false]; exact sb))
end

section
set_option linter.all false
set_option pp.maxSteps 100000
set_option maxRecDepth 100000
set_option maxHeartbeats 4000000
open Go.RowKit

/-- two views of what may be the same blocks -/
def En.both (e e' : En) : En where
  P S w := e.P S w ∧ e'.P S w
  mono h hs := ⟨e.mono h.1 hs, e'.mono h.2 hs⟩
  loc h hs hz := ⟨e.loc h.1 hs hz, e'.loc h.2 hs hz⟩
section
variable {w0 w : World} {Bs : List Nat} {H : List En} {e e' e2 : En}
theorem Mem.both1 (h : Mem w0 Bs (.both e e' :: H) w) : Mem w0 Bs (e :: H) w := by
  obtain ⟨h0, S, hS, hx, hr⟩ := h; exact ⟨h0, S, hS, hx.1, hr⟩
theorem Mem.both2 (h : Mem w0 Bs (.both e e' :: H) w) : Mem w0 Bs (e' :: H) w := by
  obtain ⟨h0, S, hS, hx, hr⟩ := h; exact ⟨h0, S, hS, hx.2, hr⟩
theorem Mem.bothI (h : Mem w0 Bs (e :: H) w) : Mem w0 Bs (.both e e :: H) w := by
  obtain ⟨h0, S, hS, hx, hr⟩ := h; exact ⟨h0, S, hS, ⟨hx, hx⟩, hr⟩
theorem Mem.bothR (h : Mem w0 Bs (e2 :: .both e e' :: H) w) : Mem w0 Bs (.both e e2 :: H) w := by
  obtain ⟨h0, S, hS, hx, S2, hS2, hy, hr⟩ := h
  exact ⟨h0, fun b => S b ∨ S2 b, fun b hb => hb.elim (hS b) (fun h => (hS2 b h).1), ⟨e.mono hy.1 (fun b hb => .inr hb), e2.mono hx (fun b hb => .inl hb)⟩, hr.mono fun b hb => ⟨hb.1.1, fun h => h.elim hb.1.2 hb.2⟩⟩
end
theorem leastK_app {l m : List Int} : ∀ k, k ≤ l.length → leastK (l ++ m) k = leastK l k
  | 0, _ => rfl
  | k + 1, h => by
    have ih := leastK_app (l := l) (m := m) k (by omega)
    have h1 : lx (l ++ m) k = lx l k := lx_app_l (by omega)
    have h2 : lx (l ++ m) (leastK l k) = lx l (leastK l k) := lx_app_l (by have := leastK_le l k; omega)
    simp only [leastK, ih, h1, h2]
def selK (t : TD) (lay : List Int) (R : List (Nat × Nat)) : Nat := leastK (exC t lay R) (exC t lay R).length
/-- the best of the layouts in which two items are exchanged -/
def selB (t : TD) (lay : List Int) (R : List (Nat × Nat)) : List Int := if selK t lay R = 0 then lay else exch lay (lx ((0, 0) :: R) (selK t lay R)).1 (lx ((0, 0) :: R) (selK t lay R)).2
theorem selK_lt (t : TD) (lay : List Int) (R : List (Nat × Nat)) : selK t lay R < R.length + 1 := by
  have := leastK_lt (exC t lay R) (k := (exC t lay R).length) (by rw [exC_len]; omega)
  have e := exC_len t lay R
  unfold selK
  omega
theorem sel_cost (t : TD) (lay : List Int) (R : List (Nat × Nat)) : costL t (selB t lay R) = lx (exC t lay R) (selK t lay R) := by
  unfold selB
  have h := selK_lt t lay R
  split
  · rename_i h0; rw [h0]; simp [exC, lx]
  · rename_i h0
    obtain ⟨j, hj⟩ : ∃ j, selK t lay R = j + 1 := ⟨selK t lay R - 1, by omega⟩
    rw [hj, exC_at (by omega)]
    simp [lx]
theorem sel_nil (t : TD) (lay : List Int) : selB t lay [] = lay := by simp [selB, selK, exC, leastK]
theorem sel_snoc (t : TD) (lay : List Int) (R : List (Nat × Nat)) (p : Nat × Nat) : selB t lay (R ++ [p]) = if costL t (exch lay p.1 p.2) < costL t (selB t lay R) then exch lay p.1 p.2 else selB t lay R := by
  have he : exC t lay (R ++ [p]) = exC t lay R ++ [costL t (exch lay p.1 p.2)] := by simp [exC]
  have hK : selK t lay (R ++ [p]) = if costL t (exch lay p.1 p.2) < costL t (selB t lay R) then R.length + 1 else selK t lay R := by
    have hl := exC_len t lay R
    have hlast : lx (exC t lay R ++ [costL t (exch lay p.1 p.2)]) (R.length + 1) = costL t (exch lay p.1 p.2) := lx_app_e hl.symm
    have hk : leastK (exC t lay R ++ [costL t (exch lay p.1 p.2)]) (R.length + 1) = selK t lay R := by
      rw [leastK_app _ (by omega)]; unfold selK; rw [hl]
    have hs : lx (exC t lay R ++ [costL t (exch lay p.1 p.2)]) (selK t lay R) = costL t (selB t lay R) := by
      rw [sel_cost, lx_app_l (by rw [hl]; exact selK_lt t lay R)]
    show leastK (exC t lay (R ++ [p])) (exC t lay (R ++ [p])).length = _
    rw [he, List.length_append, hl, List.length_singleton]
    rw [leastK, hk, hlast, hs]
  have h := selK_lt t lay R
  unfold selB at hK ⊢
  by_cases hc : costL t (exch lay p.1 p.2) < costL t (if selK t lay R = 0 then lay else exch lay (lx ((0, 0) :: R) (selK t lay R)).1 (lx ((0, 0) :: R) (selK t lay R)).2)
  · rw [if_pos hc] at hK ⊢
    rw [hK, if_neg (by omega)]
    have : lx ((0, 0) :: (R ++ [p])) (R.length + 1) = p := by rw [← List.cons_append]; exact lx_app_e (by simp)
    rw [this]
  · rw [if_neg hc] at hK ⊢
    rw [hK]
    have : lx ((0, 0) :: (R ++ [p])) (selK t lay R) = lx ((0, 0) :: R) (selK t lay R) := by rw [← List.cons_append]; exact lx_app_l (by simpa using h)
    rw [this]
theorem sel_lay {t : TD} {n : Nat} {lines : Int} {lay : List Int} (h : LayG n lines lay) {R : List (Nat × Nat)} (hR : ∀ p ∈ R, p.1 < n ∧ p.2 < n) : LayG n lines (selB t lay R) := by
  unfold selB
  split
  · exact h
  · rename_i h0
    have hk := selK_lt t lay R
    obtain ⟨j, hj⟩ : ∃ j, selK t lay R = j + 1 := ⟨selK t lay R - 1, by omega⟩
    have hp := hR _ (lx_mem (l := R) (i := j) (by omega))
    rw [hj, show lx ((0, 0) :: R) (j + 1) = lx R j by simp [lx]]
    exact h.exch hp.1 hp.2
theorem goodF_sel {t : TD} (m : Nat) (lay : List Int) : goodF t (m + 1) lay = if selK t lay (rowsTo lay.length lay.length) = 0 then lay else goodF t m (selB t lay (rowsTo lay.length lay.length)) := by
  rw [goodF]
  by_cases h : selK t lay (rowsTo lay.length lay.length) = 0
  · rw [if_pos h]; exact if_pos h
  · rw [if_neg h, selB, if_neg h]; exact if_neg h
def rowsIJ (n i j : Nat) : List (Nat × Nat) := rowsTo n i ++ rowK i j
theorem rowsIJ_0 (n i : Nat) : rowsIJ n i 0 = rowsTo n i := by simp [rowsIJ, rowK]
theorem rowsIJ_s (n i j : Nat) : rowsIJ n i (j + 1) = rowsIJ n i j ++ [(i, i + 1 + j)] := by simp [rowsIJ, rowK]
theorem rowsIJ_n {n i : Nat} : rowsIJ n i (n - (i + 1)) = rowsTo n (i + 1) := rfl
theorem rowsIJ_mem {n i j : Nat} (hi : i < n) (hj : i + j < n) : ∀ p ∈ rowsIJ n i j, p.1 < n ∧ p.2 < n := fun p hp => by
  rcases List.mem_append.1 hp with hp | hp
  · have := rowsTo_mem.1 hp; omega
  · have := rowK_mem.1 hp; omega
theorem rowsTo_mem2 {n i : Nat} (hi : i ≤ n) : ∀ p ∈ rowsTo n i, p.1 < n ∧ p.2 < n := fun p hp => by
  have := rowsTo_mem.1 hp; omega
theorem Exch_at (lay : List Int) (al : Option Addr) (cl : Nat) (i k : Nat) (w : World) (hl : Rd icell 1 w al lay) (hll : lay.length ≤ 40) (hi : i < lay.length) (hk : k < lay.length) :
    Calls Tryz.prog 31 #[.slice al lay.length cl, .int .i64 i, .int .i64 k] w (Ret (fun q : Nat × Nat => .slice (some ⟨q.1, 0, none⟩) (exch lay i k).length q.2) (fun q => [.pure ((exch lay i k).length ≤ q.2), .cells q.1 (ic (exch lay i k))]) w) := by
  rw [exch_len]; exact Exch_v lay al cl i k w hl hll hi hk
theorem rGood_bad (t : TD) (p i e : Int) (w : World) (hn : t.Len) (hT : t.At w) (hr : chkL t = (p, i, e)) (he : ¬ e = 0) :
    Calls Tryz.prog 22 #[.agg #[.slice t.ao t.os.length t.co, .int .i64 t.data, .int .i64 t.lines, .slice t.ap t.ps.length t.cp]] w (fun e' w' => e' = .returned (.tuple #[.slice none 0 0, .int .i64 e]) ∧ Below w.heap.size w w') := by
  have he2 : (e != 0) = true := by simpa using he
  refine go_in Tryz.func22 rfl Tryz.ntmps22 [] [] (Mem.start _) ?_
  refine go ?_
  refine GoL.a (fun b1 => ?_)
  refine go ?_
  refine GoL.cv (fun w' hw => rcheck_v t p i e w' (hT.old hw) hn hr) ?_
  clear he
  refine go ?_
  exact ev2 ⟨rfl, rfl⟩
theorem rGood_ok (t : TD) (ht : t.Ok) (w : World) (hn : t.Len) (hT : t.At w) :
    Calls Tryz.prog 22 #[.agg #[.slice t.ao t.os.length t.co, .int .i64 t.data, .int .i64 t.lines, .slice t.ap t.ps.length t.cp]] w (Ret (fun q : Option Addr × Nat => .tuple #[.slice q.1 (goodL t).length q.2, .int .i64 0]) (fun q => [.rd icell 1 q.1 (goodL t)]) w) := by
  obtain ⟨n, hN⟩ : ∃ n : Nat, n = t.os.length + t.data.toNat := ⟨_, rfl⟩
  have hn40 : 1 ≤ n ∧ n ≤ 40 := by have := ht.n1; have := ht.d1; omega
  have hG0 : LayG n t.lines (laidL t) := by rw [hN]; exact laid_good ht
  have hlay : ∀ lay, LayG n t.lines lay → layL t lay = 0 := fun lay h => by rw [hN] at h; exact h.lay
  have hN3 := hid hN
  clear hN
  refine go_in Tryz.func22 rfl Tryz.ntmps22 [] [] (Mem.start _) ?_
  refine go ?_
  refine GoL.a (fun b1 => ?_)
  refine go ?_
  refine GoL.cv (fun w' hw => rcheck_v t 0 0 0 w' (hT.old hw) hn (chkL_mk ht)) ?_
  refine go ?_
  refine GoL.c (fun w' hw => rlaid_v t ht w' hn (hT.old hw)) (fun g => ?_)
  rw [← hN3.out]
  refine go ?_
  have hl0 := hid (show n = (laidL t).length from hG0.len.symm)
  rw [hl0.out]
  refine GoC.mem (H' := [.rd icell 1 (some ⟨g, 0, none⟩) (laidL t), .cells b1 [.slice t.ao t.os.length t.co, .int .i64 t.data, .int .i64 t.lines, .slice t.ap t.ps.length t.cp]]) (fun w hw => (hw.c2r (f := icell) (m := 1) (laidL t) .here (fun _ => rfl) (ic_flat _).symm).sub sb) ?_
  refine go_loop (X := Nat × List Int × Option Addr × Nat) (fun y => goodF t y.1 y.2.1 = goodL t ∧ LayG n t.lines y.2.1 ∧ costL t y.2.1 < y.1) (fun y => y.1) (fun y => [(7, .slice y.2.2.1 y.2.1.length y.2.2.2)]) (fun y => [.rd icell 1 y.2.2.1 y.2.1, .cells b1 [.slice t.ao t.os.length t.co, .int .i64 t.data, .int .i64 t.lines, .slice t.ap t.ps.length t.cp]]) ((costL t (laidL t)).toNat + 1, laidL t, some ⟨g, 0, none⟩, (laidL t).length) [1] ⟨rfl, by rw [← hl0.out]; exact hG0, by simp only; omega⟩ (by simp [AgreeL, At]) sb (fun y hy => ?_)
  obtain ⟨m, lay, al, cl⟩ := y
  obtain ⟨hm, hG, hlt⟩ := hy
  dsimp only at hm hG hlt ⊢
  have hc0 := costL_nn ht lay
  obtain ⟨m, rfl⟩ : ∃ m', m = m' + 1 := ⟨m - 1, by omega⟩
  have hgl := hid hG.len
  rw [goodF_sel, hgl.out] at hm
  have hm2 := hid hm
  have hll : lay.length ≤ 40 := by have := hgl.out; omega
  have hLay := hlay lay hG
  have hLay2 := hid hLay
  have hlt2 := hid hlt
  clear hm hLay hlt hl0
  have hnil := hid (sel_nil t lay)
  refine go ?_
  refine GoC.mem (H' := [.both (.rd icell 1 al lay) (.rd icell 1 al (selB t lay (rowsTo n 0))), .cells b1 [.slice t.ao t.os.length t.co, .int .i64 t.data, .int .i64 t.lines, .slice t.ap t.ps.length t.cp]]) (fun w hw => by rw [show selB t lay (rowsTo n 0) = lay from hnil.out]; exact hw.bothI) ?_
  refine go_loop (X := Nat × Option Addr × Nat) (fun y => y.1 ≤ lay.length) (fun y => lay.length - y.1) (fun y => [(9, .int .i64 y.1), (8, .slice y.2.1 (selB t lay (rowsTo n y.1)).length y.2.2)]) (fun y => [.both (.rd icell 1 al lay) (.rd icell 1 y.2.1 (selB t lay (rowsTo n y.1))), .cells b1 [.slice t.ao t.os.length t.co, .int .i64 t.data, .int .i64 t.lines, .slice t.ap t.ps.length t.cp]]) (0, al, cl) [1, 7] (Nat.zero_le _) (by simp [AgreeL, At, rowsTo, sel_nil]) sb (fun y hy => ?_)
  obtain ⟨i, aB, cB⟩ := y
  dsimp only at hy ⊢
  refine go ?_
  refine go_if (fun h => ?_) (fun h => ?_)
  · have hi : i < lay.length := by omega
    have hin := hid (show i < n by have := hgl.out; omega)
    rw [← rowsIJ_0]
    refine go ?_
    refine go_loop (X := Nat × Option Addr × Nat) (fun y => i + 1 + y.1 ≤ lay.length) (fun y => lay.length - y.1) (fun y => [(10, .int .i64 ((i : Int) + 1 + (y.1 : Int))), (8, .slice y.2.1 (selB t lay (rowsIJ n i y.1)).length y.2.2)]) (fun y => [.both (.rd icell 1 al lay) (.rd icell 1 y.2.1 (selB t lay (rowsIJ n i y.1))), .cells b1 [.slice t.ao t.os.length t.co, .int .i64 t.data, .int .i64 t.lines, .slice t.ap t.ps.length t.cp]]) (0, aB, cB) [1, 7, 9] (by simp only; omega) (by simp [AgreeL, At]) sb (fun y hy => ?_)
    obtain ⟨j, aB, cB⟩ := y
    dsimp only at hy ⊢
    refine go ?_
    refine go_if (fun h2 => ?_) (fun h2 => ?_)
    · have hj : i + 1 + j < lay.length := by omega
      have hijn := hid (show i + 1 + j < n by have := hgl.out; omega)
      have hex := fun w' (h1 : Rd icell 1 w' al lay) => Exch_at lay al cl i (i + 1 + j) w' h1 hll hi hj
      rw [show (((i + 1 + j : Nat)) : Int) = (i : Int) + 1 + (j : Int) by push_cast; rfl] at hex
      have hsn := hid (show selB t lay (rowsIJ n i (j + 1)) = if costL t (exch lay i (i + 1 + j)) < costL t (selB t lay (rowsIJ n i j)) then exch lay i (i + 1 + j) else selB t lay (rowsIJ n i j) by rw [rowsIJ_s, sel_snoc])
      have hGx := hid (hlay _ (hG.exch hin.out hijn.out))
      have hGB := hid (hlay (selB t lay (rowsIJ n i j)) (sel_lay (t := t) hG (rowsIJ_mem (j := j) hin.out (by have := hijn.out; omega))))
      have hxl := hid (exch_len lay i (i + 1 + j))
      refine go ?_
      refine GoL.c (fun w' hw => hex w' (hw.both1.rd pk)) (fun q => ?_)
      obtain ⟨g2, c2⟩ := q
      refine GoL.pure (fun hc2 => ?_)
      dsimp only at hc2 ⊢
      generalize exch lay i (i + 1 + j) = x at *
      generalize selB t lay (rowsIJ n i j) = B at *
      refine go ?_
      refine D.cv (fun F w' hw => rcost_v t ht x _ _ w' hn (hT.old hw) (rdC (hw.cells pk)) hGx.out) ?_
      refine go ?_
      refine GoL.cv (fun w' hw => rcost_v t ht B aB cB w' hn (hT.old hw) ((show Mem w [] [.both (.rd icell 1 al lay) (.rd icell 1 aB B)] w' from hw.sub sb).both2.rd .here) hGB.out) ?_
      refine go ?_
      refine go_if (fun h3 => ?_) (fun h3 => ?_)
      · have hs2 := hid (hsn.out.trans (if_pos h3))
        clear h3 hsn
        refine go ?_
        refine GoX.mem (H' := [.both (.rd icell 1 al lay) (.rd icell 1 (some ⟨g2, 0, none⟩) x), .cells b1 [.slice t.ao t.os.length t.co, .int .i64 t.data, .int .i64 t.lines, .slice t.ap t.ps.length t.cp]]) (fun w hw => (hw.c2r (f := icell) (m := 1) x .here (fun _ => rfl) (ic_flat _).symm).bothR) ?_
        refine go_again (j + 1, some ⟨g2, 0, none⟩, c2) (by simp only; omega) (by simp only; omega) (by rw [hs2.out]; simp [AgreeL, At]; omega) ?_
        rw [hs2.out]
        exact sb
      · have hs2 := hid (hsn.out.trans (if_neg (by omega)))
        clear h3 hsn
        refine go ?_
        refine go_again (j + 1, aB, cB) (by simp only; omega) (by simp only; omega) (by rw [hs2.out]; simp [AgreeL, At]; omega) ?_
        rw [hs2.out]
        exact sb
    · have hj9 : j = lay.length - (i + 1) := by omega
      have hR := hid (show rowsIJ n i j = rowsTo n (i + 1) by rw [hj9, hgl.out, rowsIJ_n])
      clear hj9 h2
      refine go ?_
      refine go_again (i + 1, aB, cB) (by simp only; omega) (by simp only; omega) (by rw [hR.out]; simp [AgreeL, At]) ?_
      rw [hR.out]
      exact sb
  have hi9 : i = n := by have := hgl.out; omega
  subst hi9
  have hGB := hid (hlay (selB t lay (rowsTo i i)) (sel_lay (t := t) hG (rowsTo_mem2 (Nat.le_refl _))))
  have hGBg := hid (sel_lay (t := t) hG (rowsTo_mem2 (n := i) (Nat.le_refl i)))
  have hcB := costL_nn ht (selB t lay (rowsTo i i))
  have hcase : (selB t lay (rowsTo i i) = lay ∧ goodL t = lay) ∨ (costL t (selB t lay (rowsTo i i)) < costL t lay ∧ goodF t m (selB t lay (rowsTo i i)) = goodL t) := by
    have h1 := hm2.out
    by_cases hK : selK t lay (rowsTo i i) = 0
    · rw [if_pos hK] at h1
      exact .inl ⟨by unfold selB; rw [if_pos hK], h1.symm⟩
    · rw [if_neg hK] at h1
      refine .inr ⟨?_, h1⟩
      have hs := good_step hG (by rw [hgl.out]; exact hK)
      rw [hgl.out] at hs
      unfold selB
      rw [if_neg hK]
      exact hs.2.2.2.2
  clear h hnil hm2
  generalize selB t lay (rowsTo i i) = B at *
  refine go ?_
  refine D.cv (fun F w' hw => rcost_v t ht B aB cB w' hn (hT.old hw) ((show Mem w [] [.both (.rd icell 1 al lay) (.rd icell 1 aB B)] w' from hw.sub sb).both2.rd .here) hGB.out) ?_
  refine go ?_
  refine GoL.cv (fun w' hw => rcost_v t ht lay al cl w' hn (hT.old hw) ((show Mem w [] [.both (.rd icell 1 al lay) (.rd icell 1 aB B)] w' from hw.sub sb).both1.rd .here) hLay2.out) ?_
  rcases hcase with ⟨e1, e2⟩ | ⟨e1, e2⟩
  · rw [e1]
    have e2' := hid e2
    clear e1 e2
    refine go ?_
    refine end2 (fun w' hw => ⟨(al, cl), by rw [e2'.out], ?_⟩)
    rw [e2'.out]
    exact Mem.done (Mem.both1 (show Mem w [] [.both (.rd icell 1 al lay) (.rd icell 1 aB lay)] w' from hw.sub sb)) sb
  · have hne : (costL t B == costL t lay) = false := by simp; omega
    have e2' := hid e2
    have e1' := hid e1
    clear e1 e2
    refine go ?_
    refine GoX.mem (H' := [.rd icell 1 aB B, .cells b1 [.slice t.ao t.os.length t.co, .int .i64 t.data, .int .i64 t.lines, .slice t.ap t.ps.length t.cp]]) (fun w hw => (Mem.both2 (hw.sub sb : Mem _ [] [.both (.rd icell 1 al lay) (.rd icell 1 aB B), .cells b1 [.slice t.ao t.os.length t.co, .int .i64 t.data, .int .i64 t.lines, .slice t.ap t.ps.length t.cp]] w))) ?_
    exact go_again (m, B, aB, cB) ⟨e2'.out, hGBg.out, by have := e1'.out; have := hlt2.out; simp only; push_cast at *; omega⟩ (by simp only; omega) (by simp [AgreeL, At]) sb
end

section
set_option linter.all false
open Go.RowKit

theorem cmpLs_self : ∀ l, cmpLs l l = 0
  | [] => rfl
  | x :: l => by simp [cmpLs, cmpI, cmpLs_self l]
theorem cmpLs_le_total : ∀ x y, cmpLs x y ≤ 0 ∨ cmpLs y x ≤ 0
  | [], [] => .inl (Int.le_refl _)
  | [], _ :: _ => .inl (by simp [cmpLs])
  | _ :: _, [] => .inr (by simp [cmpLs])
  | a :: x, b :: y => by
    rcases cmpLs_le_total x y with h | h
    all_goals
      simp only [cmpLs, cmpI]
      rcases Int.lt_trichotomy a b with g | g | g
      · left; (repeat split) <;> omega
      · subst g; simp; first | (left; exact h) | (right; exact h)
      · right; (repeat split) <;> omega
theorem cmpLs_neg : ∀ x y, cmpLs x y < 0 ↔ 0 < cmpLs y x
  | [], [] => by simp [cmpLs]
  | [], _ :: _ => by simp [cmpLs]
  | _ :: _, [] => by simp [cmpLs]
  | a :: x, b :: y => by
    have ih := cmpLs_neg x y
    simp only [cmpLs, cmpI]
    (repeat split) <;> omega
theorem cmpLs_trans : ∀ x y z, cmpLs x y ≤ 0 → cmpLs y z ≤ 0 → cmpLs x z ≤ 0
  | [], y, [], _, _ => Int.le_refl _
  | [], y, _ :: _, _, _ => by simp [cmpLs]
  | a :: x, [], z, h, _ => by simp [cmpLs] at h
  | a :: x, b :: y, [], _, h => by simp [cmpLs] at h
  | a :: x, b :: y, c :: z, h1, h2 => by
    have ih := cmpLs_trans x y z
    simp only [cmpLs, cmpI] at h1 h2 ⊢
    (repeat split at h1) <;> (repeat split at h2) <;> (repeat split) <;> first | omega | (exact ih h1 h2)
def leC (t : TD) (x y : List Int) : Prop := costL t x < costL t y ∨ (costL t x = costL t y ∧ cmpLs x y ≤ 0)
theorem leC_total (t : TD) (x y : List Int) : leC t x y ∨ leC t y x := by
  unfold leC
  rcases Int.lt_trichotomy (costL t x) (costL t y) with h | h | h
  · exact .inl (.inl h)
  · rcases cmpLs_le_total x y with g | g
    · exact .inl (.inr ⟨h, g⟩)
    · exact .inr (.inr ⟨h.symm, g⟩)
  · exact .inr (.inl h)
theorem leC_trans {t : TD} {x y z : List Int} (h1 : leC t x y) (h2 : leC t y z) : leC t x z := by
  unfold leC at *
  rcases h1 with h1 | ⟨h1, g1⟩ <;> rcases h2 with h2 | ⟨h2, g2⟩
  · exact .inl (by omega)
  · exact .inl (by omega)
  · exact .inl (by omega)
  · exact .inr ⟨by omega, cmpLs_trans _ _ _ g1 g2⟩
theorem betB_iff {t : TD} {x y : List Int} : betB t x (some y) = true ↔ ¬ leC t y x := by
  have hn := cmpLs_neg x y
  simp only [betB, decide_eq_true_eq]
  unfold leC
  by_cases e : costL t x - costL t y = 0
  · have : orL [costL t x - costL t y, cmpLs x y] = cmpLs x y := by
      simp only [orL, e, ne_eq, not_true_eq_false, if_false]
      split
      · rfl
      · omega
    rw [this]
    omega
  · rw [orL_ne e]; omega
/-- the better one: the first, where none is -/
def mrg (t : TD) (o : Option (List Int)) : Option (List Int) → Option (List Int)
  | none => o
  | some x => if betB t x o = true then some x else o
theorem mrg_t {t : TD} {o : Option (List Int)} {x : List Int} (h : betB t x o = true) : mrg t o (some x) = some x := if_pos h
theorem mrg_f {t : TD} {o : Option (List Int)} {x : List Int} (h : ¬ betB t x o = true) : mrg t o (some x) = o := if_neg h
theorem mrg_0 (t : TD) (z : Option (List Int)) : mrg t none z = z := by cases z <;> simp [mrg, betB]
theorem mrg_assoc (t : TD) (a b c : Option (List Int)) : mrg t (mrg t a b) c = mrg t a (mrg t b c) := by
  cases c with
  | none => rfl
  | some c =>
    cases b with
    | none => rw [mrg_0]; rfl
    | some b =>
      cases a with
      | none => rw [mrg_0, mrg_0]
      | some a =>
        by_cases h1 : betB t b (some a) = true
        · rw [mrg_t h1]
          by_cases h2 : betB t c (some b) = true
          · have h3 : betB t c (some a) = true := betB_iff.2 fun h => by
              have g1 := betB_iff.1 h1
              have g2 := betB_iff.1 h2
              rcases leC_total t a b with g | g
              · exact g1 g
              · exact g2 (leC_trans g h)
            rw [mrg_t h2, mrg_t h3]
          · rw [mrg_f h2, mrg_t h1]
        · rw [mrg_f h1]
          by_cases h2 : betB t c (some b) = true
          · rw [mrg_t h2]
          · rw [mrg_f h2, mrg_f h1]
            refine mrg_f fun h => ?_
            have g1 := Classical.byContradiction fun g => h1 (betB_iff.2 g)
            have g2 := Classical.byContradiction fun g => h2 (betB_iff.2 g)
            exact betB_iff.1 h (leC_trans g1 g2)
def toO (l : List Int) : Option (List Int) := if l = [] then none else some l
/-- the reference's search -/
def pickB (t : TD) (x out : List Int) : Bool := decide (x ≠ []) && (decide (out = []) || (decide (costL t x < costL t out) || (decide (costL t x = costL t out) && decide (cmpLs x out < 0))))
def rStep (t : TD) (f : List Int → List Int) (s : List Int) (out : List Int) (p : Nat) : List Int :=
  if freeP s t.lines p < 0 then out else if pickB t (f (s ++ [freeP s t.lines p])) out = true then f (s ++ [freeP s t.lines p]) else out
def rB (t : TD) : Nat → List Int → List Int
  | 0, s => s
  | k + 1, s => (List.range 16).foldl (rStep t (rB t k) s) []
def rTo (t : TD) (k : Nat) (s : List Int) : Nat → List Int
  | 0 => []
  | p + 1 => rStep t (rB t k) s (rTo t k s p) p
theorem rTo_eq (t : TD) (k : Nat) (s : List Int) : rTo t k s 16 = rB t (k + 1) s := by
  have h : ∀ m, rTo t k s m = (List.range m).foldl (rStep t (rB t k) s) [] := by
    intro m
    induction m with
    | zero => rfl
    | succ m ih => rw [rTo, ih, List.range_succ, List.foldl_append]; rfl
  exact h 16
theorem pick_mrg (t : TD) (x out : List Int) : toO (if pickB t x out = true then x else out) = mrg t (toO out) (toO x) := by
  unfold pickB toO
  by_cases hx : x = []
  · subst hx; simp [mrg]
  · by_cases ho : out = []
    · subst ho; simp [hx, mrg, betB]
    · simp only [hx, ho, ne_eq, not_false_eq_true, decide_true, decide_false, Bool.true_and, Bool.false_or, if_false, mrg]
      have e : (decide (costL t x < costL t out) || (decide (costL t x = costL t out) && decide (cmpLs x out < 0))) = true ↔ betB t x (some out) = true := by
        rw [betB_iff]
        have hn := cmpLs_neg x out
        unfold leC
        simp only [Bool.or_eq_true, Bool.and_eq_true, decide_eq_true_eq]
        omega
      by_cases hb : betB t x (some out) = true
      · rw [if_pos (e.2 hb), if_pos hb, if_neg hx]
      · rw [if_neg (fun h => hb (e.1 h)), if_neg hb, if_neg ho]
theorem bst_rB {t : TD} : ∀ k s o, s ≠ [] → bstF t k s o = mrg t o (toO (rB t k s))
  | 0, s, o, hs => by rw [bstF, rB, toO, if_neg hs]; rfl
  | k + 1, s, o, hs => by
    rw [bstF, rB]
    have key : ∀ (ps : List Nat) (o : Option (List Int)) (out : List Int), (∀ p ∈ ps, p < 16) → ps.foldl (fun o p => if 0 ≤ lx (freeL s t.lines) p then bstF t k (s ++ [lx (freeL s t.lines) p]) o else o) (mrg t o (toO out)) = mrg t o (toO (ps.foldl (rStep t (rB t k) s) out)) := by
      intro ps
      induction ps with
      | nil => intro o out _; rfl
      | cons p ps ih =>
        intro o out hp
        rw [List.foldl_cons, List.foldl_cons, freeL_at (hp p (by simp))]
        unfold rStep
        by_cases h : 0 ≤ freeP s t.lines p
        · rw [if_pos h, if_neg (by omega), bst_rB k _ _ (by simp), mrg_assoc, ← pick_mrg]
          exact ih o _ (fun q hq => hp q (by simp [hq]))
        · rw [if_neg h, if_pos (by omega)]
          exact ih o out (fun q hq => hp q (by simp [hq]))
    have := key (List.range 16) o [] (fun p hp => by simpa using hp)
    simpa [toO, mrg] using this
theorem rB_best {t : TD} : rB t (t.os.length + t.data.toNat - 1) [0] = bestL t := by
  unfold bestL bestO
  rw [bst_rB _ _ _ (by simp)]
  have e : ∀ z, mrg t none z = z := fun z => by cases z <;> simp [mrg, betB]
  rw [e]
  unfold toO
  split
  · rename_i h; rw [h]; rfl
  · rfl
theorem Pre_snoc {lines : Int} (hl : lines ≤ 8) {s : List Int} {p : Nat} (hs : Pre lines s) (hv : 0 ≤ freeP s lines p) : Pre lines (s ++ [freeP s lines p]) := by
  have hf := freeP_ok hl hv
  refine ⟨fun a ha => ?_, ?_, by simp, ?_⟩
  · rcases List.mem_append.1 ha with ha | ha
    · exact hs.rg a ha
    · obtain rfl : a = _ := by simpa using ha
      exact ⟨hv, hf.1⟩
  · rw [List.nodup_append]
    refine ⟨hs.nd, by simp, fun a ha b hb => ?_⟩
    obtain rfl : b = _ := by simpa using hb
    intro e; subst e; exact hf.2 ha
  · rw [lx_app_l (by cases s with | nil => exact absurd rfl hs.h0.1 | cons => simp)]; exact hs.h0.2
theorem Pre_lay {t : TD} {l : List Int} (h : Pre t.lines l) (hn : l.length = t.os.length + t.data.toNat) : layL t l = 0 := by
  refine layE_mk hn h.rg fun i j hij hj => ?_
  rw [lx_eq (by omega), lx_eq hj]
  intro e
  have := (List.getElem_inj h.nd).1 e
  omega
/-- what the search finds is a layout, or nothing -/
theorem rB_inv {t : TD} (hl : t.lines ≤ 8) {n : Nat} : ∀ k s, s.length + k = n → Pre t.lines s → rB t k s = [] ∨ (Pre t.lines (rB t k s) ∧ (rB t k s).length = n)
  | 0, s, hk, hs => .inr ⟨hs, by rw [rB]; omega⟩
  | k + 1, s, hk, hs => by
    rw [← rTo_eq]
    have key : ∀ m, m ≤ 16 → rTo t k s m = [] ∨ (Pre t.lines (rTo t k s m) ∧ (rTo t k s m).length = n) := by
      intro m
      induction m with
      | zero => intro _; exact .inl rfl
      | succ m ih =>
        intro hm
        rw [rTo, rStep]
        split
        · exact ih (by omega)
        · rename_i hf
          split
          · exact rB_inv hl k _ (by simp; omega) (Pre_snoc hl hs (by omega))
          · exact ih (by omega)
    exact key 16 (Nat.le_refl _)
theorem rTo_inv {t : TD} (hl : t.lines ≤ 8) {n : Nat} {k : Nat} {s : List Int} (hk : s.length + (k + 1) = n) (hs : Pre t.lines s) : ∀ m, rTo t k s m = [] ∨ (Pre t.lines (rTo t k s m) ∧ (rTo t k s m).length = n)
  | 0 => .inl rfl
  | m + 1 => by
    rw [rTo, rStep]
    split
    · exact rTo_inv hl hk hs m
    · rename_i hf
      split
      · exact rB_inv hl k _ (by simp; omega) (Pre_snoc hl hs (by omega))
      · exact rTo_inv hl hk hs m
end


end Go.Proofs.YtigehmghcafblaaGreat
