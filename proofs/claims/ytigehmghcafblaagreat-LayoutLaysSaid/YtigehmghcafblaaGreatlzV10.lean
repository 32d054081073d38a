/- LayoutLays. -/
import Derived.Test.YtigehmghcafblaaGreatlzR5
import Derived.Test.YtigehmghcafblaaGreatlzW21
set_option linter.all false
namespace Go.Proofs.YtigehmghcafblaaGreat

section
set_option linter.all false
set_option pp.maxSteps 100000
set_option maxRecDepth 100000
set_option maxHeartbeats 4000000
open Go.RowKit

theorem Exch_v (lay : List Int) (al : Option Addr) (cl : Nat) (i k : Nat) (w : World) (hl : Rd icell 1 w al lay) (hll : lay.length ≤ 40) (hi : i < lay.length) (hk : k < lay.length) :
    Calls Tryz.prog 31 #[.slice al lay.length cl, .int .i64 i, .int .i64 k] w (Ret (fun q : Nat × Nat => .slice (some ⟨q.1, 0, none⟩) lay.length q.2) (fun q => [.pure (lay.length ≤ q.2), .cells q.1 (ic (exch lay i k))]) w) := by
  refine go_in Tryz.func31 rfl Tryz.ntmps31 [] [] (Mem.start _) ?_
  refine go ?_
  refine GoL.sl (Ef.lit (f := icell) (m := 1) (e := 3) [] (fun _ => rfl) rfl) (fun a3 c3 => ?_)
  refine GoL.q ⟨_, Ex.q, ?_⟩
  refine GoL.sl (Ef.app (f := icell) (l := []) (l2 := lay) (v := .slice a3 ([] : List Int).length c3) elI (fun _ => rfl) icell_one (by simp only [List.length_nil]; omega) pk (fun w hw => hw.old hl)) (fun a4 c4 => ?_)
  rw [List.nil_append]
  refine GoL.fact (p := ∃ g, a4 = some ⟨g, 0, none⟩) (fun w hw => own_some (hw.own (l := lay) pk) (by omega)) (fun hg => ?_)
  obtain ⟨g, rfl⟩ := hg
  refine GoL.fact (p := lay.length ≤ c4) (fun w hw => (hw.own (l := lay) pk).cap) (fun hc4 => ?_)
  refine GoL.mem (H' := [.cells g (ic lay)]) (fun w hw => (hw.o2c (f := icell) rfl .here).sub sb) ?_
  refine GoL.q ⟨_, Ex.q, ?_⟩
  refine go_nil ?_
  refine xt_n ?_
  refine go_seq ?_
  refine go_drw [.cells g (ic lay)] [] ?_
  refine go ?_
  refine D.s (A := fun _ _ => .cells g (ic (lay.set i (lx lay k)))) [] [] [16] (fun X F => Ef.sa .here hi) ?_
  refine D.nil [(13, fun _ => .cells g (ic (lay.set i (lx lay k))))] (fun X => ?_) (hchk := (by show chkDD _ _ 1 [13] = true; decide +kernel))
  refine go ?_
  refine GoL.sa (b := g) (l := lay.set i (lx lay k)) (i := k) (z := lx lay i) .here (by rw [List.length_set]; exact hk) ?_
  rw [show (lay.set i (lx lay k)).set k (lx lay i) = exch lay i k from rfl]
  refine go ?_
  exact end1 (fun w' hw => ⟨(g, c4), rfl, Mem.done (Mem.pureI hc4 hw) sb⟩)
theorem good_walk (t : TD) (x0 x1 : Int) (w : World) (hn : t.Len) (hT : t.At w) (b0 : 0 ≤ x0 ∧ x0 ≤ 255) (b1 : 0 ≤ x1 ∧ x1 ≤ 255) :
    Calls Tryz.prog 8 #[.agg #[.slice t.ao t.os.length t.co, .int .i64 t.data, .int .i64 t.lines, .slice t.ap t.ps.length t.cp], .agg #[.int .u8 x0, .int .u8 x1]] w (fun e w' => e = .returned (.bool true) ∧ Below w.heap.size w w') := by
  obtain ⟨⟨p, i, e⟩, hr⟩ : ∃ q : Int × Int × Int, q = chkL t := ⟨_, rfl⟩
  refine go_in Tryz.func8 rfl Tryz.ntmps8 [] [] (Mem.start _) ?_
  refine go ?_
  refine GoL.a (fun b2 => ?_)
  refine go ?_
  refine GoL.a (fun b3 => ?_)
  refine go ?_
  by_cases he : e = 0
  rotate_left
  · refine GoL.cv (fun w' hw => Good_bad t p i e w' hn (hT.old hw) hr.symm he) ?_
    have he2 : (e != 0) = true := by simpa using he
    refine go ?_
    refine GoL.cv (fun w' hw => awake_v w') ?_
    refine go ?_
    exact ev1 rfl
  subst he
  have ht := chkL_ok hr.symm
  have hR := hid hr
  clear hr
  obtain ⟨g1, g2, g3⟩ := good_res ht
  have hbb := bound_le ht (goodL t)
  have h40 : (goodL t).length ≤ 40 := by have := ht.n1; have := ht.d1; omega
  have hl0 : 0 < (goodL t).length := by have := ht.n1; omega
  have hlen := hid (show ((goodL t).length : Int) = (t.os.length : Int) + t.data by have := ht.d1; omega)
  have cG := hid (cost_ok ht g1)
  have g3' := fun a b ha hb => hid (g3 a b ha hb)
  clear g1 g2 g3
  generalize hgg : goodL t = G at *
  have hb9 : ¬ costL t G < boundN t := by omega
  refine GoL.c (fun w' hw => good_at t w' hn (hT.old hw) ht) (fun g => ?_)
  rw [hgg]
  refine go ?_
  refine GoL.cv (fun w' hw => valid_v t p i 0 w' (hT.old hw) hn hR.out.symm) ?_
  refine go ?_
  refine GoL.cv (fun w' hw => cost_at t G _ _ w' hn (hT.old hw) (rdC (hw.cells pk)) ⟨by omega, Nat.le_refl _⟩ cG.out) ?_
  refine go ?_
  refine GoL.c (fun w' hw => Bound_ok t p i w' hn (hT.old hw) hR.out.symm) (fun r => ?_)
  refine go ?_
  refine GoL.cv (fun w' hw => items_ref t w' hn ht.d1 ht.n1.2) ?_
  rw [← hlen.out]
  refine go ?_
  have hGi : (0 : Int) < G.length := by omega
  have hne := hid (show ¬ G = [] from fun e => by rw [e] at hl0; exact absurd hl0 (by decide))
  have rem_lt : ∀ z : Int, 0 ≤ z → (z % (G.length : Int)).toNat < G.length := fun z hz => by
    have h1 := Int.emod_nonneg z (b := (G.length : Int)) (by omega)
    have h2 := Int.emod_lt_of_pos z hGi
    omega
  have hi := rem_lt x0 b0.1
  have hk := rem_lt x1 b1.1
  have ei := hid (wrap_rem (u := x0) hl0 (by omega))
  have ek := hid (wrap_rem (u := x1) hl0 (by omega))
  have ei2 := hid (show x0 % (G.length : Int) = ((x0 % (G.length : Int)).toNat : Int) from (Int.toNat_of_nonneg (Int.emod_nonneg _ (by omega))).symm)
  have ek2 := hid (show x1 % (G.length : Int) = ((x1 % (G.length : Int)).toNat : Int) from (Int.toNat_of_nonneg (Int.emod_nonneg _ (by omega))).symm)
  refine D.q ⟨.int .i64 ((x0 % (G.length : Int)).toNat : Int), fun X F => Ex.q (h := by intro g w R hR; go_simp; rw [if_neg hne.out]; first | (rw [ei.out]; exact hR) | (rw [← ei2.out] at hR; exact hR)), ?_⟩
  refine go ?_
  refine D.q ⟨.int .i64 ((x1 % (G.length : Int)).toNat : Int), fun X F => Ex.q (h := by intro g w R hR; go_simp; rw [if_neg hne.out]; first | (rw [ek.out]; exact hR) | (rw [← ek2.out] at hR; exact hR)), ?_⟩
  clear ei ek ei2 ek2
  generalize (x0 % (G.length : Int)).toNat = i' at *
  generalize (x1 % (G.length : Int)).toNat = k' at *
  have hX := g3' i' k' hi hk
  have hcX := hX.out.2
  refine D.c (fun F w' hw => Exch_v G _ _ i' k' w' (rdC (hw.cells pk)) h40 hi hk) ?_
  refine go ?_
  refine D.cu (v := .tuple #[.int .i64 (costL t (exch G i' k')), .int .i64 0]) [14] (fun X F w' hw => ?_) ?_
  rotate_left
  · refine go ?_
    refine D.nil [] (fun X => ?_) (hchk := by show chkDD _ _ 0 [] = true; decide +kernel)
    refine go ?_
    refine GoL.cv (fun w' hw => awake_v w') ?_
    refine go ?_
    exact ev1 rfl
  have hw2 : Mem w [] (.rt (fun q : Nat × Nat => .slice (some ⟨q.1, 0, none⟩) G.length q.2) (fun q => [.pure (G.length ≤ q.2), .cells q.1 (ic (exch G i' k'))]) (X 14) :: _) w' := hw
  obtain ⟨⟨a, c⟩, hx3, h2⟩ := hw2.rtE
  have hx3' : X (0 + 1 + 1 + 1 + 1 + 1 + 1 + 1 + 1 + 1 + 1 + 1 + 1 + 1 + 1) = .slice (some ⟨a, 0, none⟩) G.length c := hx3
  rw [hx3']
  obtain ⟨hp, h3⟩ := Mem.pures h2
  have := cost_at t (exch G i' k') (some ⟨a, 0, none⟩) c w' hn (hT.old h3) (rdC (h3.cells .here)) ⟨by rw [exch_len]; omega, by rw [exch_len]; exact hp⟩ (cost_ok ht hX.out.1)
  rw [exch_len] at this
  exact this
end

section
set_option linter.all false
set_option pp.maxSteps 100000
set_option maxRecDepth 100000
set_option maxHeartbeats 4000000
open Go.RowKit

/- plain: orders first, then the words -/
def putD (S dat ws : List Int) : Nat → List Int
  | 0 => S
  | k + 1 => (putD S dat ws k).set (lx dat k).toNat (lx ws k)
theorem putO_set (os : List LOrd) (lay dat S : List Int) (a : Nat) (v : Int) : ∀ k, (∀ j, j < k → (lx lay j).toNat ≠ a) → putO os lay dat (S.set a v) k = (putO os lay dat S k).set a v
  | 0, _ => rfl
  | k + 1, h => by
    rw [putO, putO, putO_set os lay dat S a v k (fun j hj => h j (by omega)), List.set_comm _ _ (fun e => h k (by omega) e.symm)]
theorem putD_eq (os : List LOrd) (lay dat ws : List Int) (n : Nat) : ∀ k, (∀ j i, j < n → i < k → (lx lay j).toNat ≠ (lx dat i).toNat) → putD (putO os lay dat (List.replicate 128 0) n) dat ws k = putO os lay dat (putW dat ws k) n
  | 0, _ => rfl
  | k + 1, h => by
    rw [putD, putD_eq os lay dat ws n k (fun j i hj hi => h j i hj (by omega)), putW, putO_set os lay dat _ _ _ n (fun j hj => h j k hj (by omega))]
theorem putD_lay {t : TD} (ht : t.Ok) {lay ws : List Int} (hL : layL t lay = 0) (hw : (ws.length : Int) = t.data) : putD (putO t.os lay (lay.drop t.os.length) (List.replicate 128 0) t.os.length) (lay.drop t.os.length) ws ws.length = layW t lay ws := by
  obtain ⟨h1, h2, h3⟩ := layE_ok hL
  refine putD_eq t.os lay _ ws t.os.length ws.length fun j i hj hi e => ?_
  rw [lx_drop] at e
  have a1 := h2 _ (lx_mem (l := lay) (i := j) (by omega))
  have a2 := h2 _ (lx_mem (l := lay) (i := i + t.os.length) (by omega))
  exact take_ne h3 (show j < i + t.os.length by omega) (by omega) (by omega)
theorem putD_len {S : List Int} (dat ws : List Int) (h : S.length = 128) : ∀ k, (putD S dat ws k).length = 128
  | 0 => h
  | k + 1 => by rw [putD, List.length_set, putD_len dat ws h]
theorem rin4_v (n lo hi : Int) (w : World) : Calls Tryz.prog 117 #[.int .i64 n, .int .i64 lo, .int .i64 hi] w (fun e w' => e = .returned (.bool (decide (¬ outP n lo hi))) ∧ Below w.heap.size w w') := by
  refine go_in Tryz.func117 rfl Tryz.ntmps117 [] [] (Mem.start _) ?_
  by_cases h1 : lo ≤ n
  · by_cases h2 : n ≤ hi
    · refine go ?_
      exact ev1 (by rw [decide_eq_true (show ¬ outP n lo hi by unfold outP; omega)])
    · refine go ?_
      exact ev1 (by rw [decide_eq_false (show ¬ ¬ outP n lo hi by unfold outP; omega)])
  · refine go ?_
    exact ev1 (by rw [decide_eq_false (show ¬ ¬ outP n lo hi by unfold outP; omega)])
theorem rWord_v (n : Int) (w : World) : Calls Tryz.prog 76 #[.int .i64 n] w (fun e w' => e = .returned (.bool (decide (¬ outP n 0 16777215))) ∧ Below w.heap.size w w') := by
  refine go_in Tryz.func76 rfl Tryz.ntmps76 [] [] (Mem.start _) ?_
  refine go ?_
  refine GoL.cv (fun w' hw => rin4_v _ _ _ w') ?_
  refine go ?_
  refine ev1 ?_
  simp
theorem rWritten_v (op fr tt nx : Int) (h : (0 ≤ op ∧ op ≤ 7) ∧ (0 ≤ fr ∧ fr ≤ 127) ∧ (0 ≤ tt ∧ tt ≤ 127) ∧ 0 ≤ nx ∧ nx ≤ 127) (w : World) : Calls Tryz.prog 80 #[.agg #[.int .i64 op, .int .i64 fr, .int .i64 tt, .int .i64 nx]] w (fun e w' => e = .returned (.int .i64 (encI op fr tt nx)) ∧ Below w.heap.size w w') := by
  refine go_in Tryz.func80 rfl Tryz.ntmps80 [] [] (Mem.start _) ?_
  obtain ⟨⟨h1, h2⟩, ⟨h3, h4⟩, ⟨h5, h6⟩, h7, h8⟩ := h
  refine go ?_
  refine GoL.a (fun b1 => ?_)
  refine go ?_
  exact ev1 rfl
/-- the error ahead of the words -/
def layE0 (t : TD) (lay ws : List Int) : Int := if ¬ (chkL t).2.2 = 0 then (chkL t).2.2 else if ¬ layL t lay = 0 then layL t lay else if ¬ (ws.length : Int) = t.data then 3 else 0
def rLayL (t : TD) (lay ws : List Int) : List Int := if layF t lay ws = 0 then layW t lay ws else []
theorem layF_E0 (t : TD) (lay ws : List Int) : layF t lay ws = if ¬ layE0 t lay ws = 0 then layE0 t lay ws else if ws.any (fun n => decide (outP n 0 16777215)) = true then 7 else 0 := by
  by_cases h1 : (chkL t).2.2 = 0
  · by_cases h2 : layL t lay = 0
    · by_cases h3 : (ws.length : Int) = t.data <;> simp [layF, layE0, h1, h2, h3]
    · simp [layF, layE0, h1, h2]
  · simp [layF, layE0, h1]
theorem layE0_ok {t : TD} {lay ws : List Int} (h : layE0 t lay ws = 0) : (chkL t).2.2 = 0 ∧ layL t lay = 0 ∧ (ws.length : Int) = t.data := by
  unfold layE0 at h
  split at h
  · rename_i h1; exact absurd h h1
  split at h
  · rename_i h1; exact absurd h h1
  split at h
  · cases h
  · rename_i h1 h2 h3; exact ⟨Classical.byContradiction h1, Classical.byContradiction h2, Classical.byContradiction h3⟩
theorem rLay_v (t : TD) (lay ws : List Int) (al aw : Option Addr) (cl cw : Nat) (w : World) (hn : t.Len) (hT : t.At w) (hl : Rd icell 1 w al lay) (hll : lay.length ≤ 9223372036854775807 ∧ lay.length ≤ cl) (hw : Rd icell 1 w aw ws) (hwl : ws.length ≤ 9223372036854775807) :
    Calls Tryz.prog 27 #[.agg #[.slice t.ao t.os.length t.co, .int .i64 t.data, .int .i64 t.lines, .slice t.ap t.ps.length t.cp], .slice al lay.length cl, .slice aw ws.length cw] w
      (Ret (fun q : Option Addr × Nat => .tuple #[.slice q.1 (rLayL t lay ws).length q.2, .int .i64 (layF t lay ws)]) (fun q => [.rd icell 1 q.1 (rLayL t lay ws)]) w) := by
  obtain ⟨⟨p, i, e⟩, hr⟩ : ∃ q : Int × Int × Int, q = chkL t := ⟨_, rfl⟩
  refine go_in Tryz.func27 rfl Tryz.ntmps27 [] [] (Mem.start _) ?_
  refine go ?_
  refine GoL.a (fun b3 => ?_)
  refine go ?_
  refine GoL.cv (fun w' hw => rcheck_v t p i e w' (hT.old hw) hn hr.symm) ?_
  have hok : e = 0 → t.Ok := fun h => by subst h; exact chkL_ok hr.symm
  have hE0 := hid (show layE0 t lay ws = (if ¬ (if ¬ e = 0 then e else layL t lay) = 0 then (if ¬ e = 0 then e else layL t lay) else if ¬ (ws.length : Int) = t.data then 3 else 0) by
    unfold layE0
    rw [← hr]
    by_cases h1 : e = 0
    · by_cases h2 : layL t lay = 0 <;> simp [h1, h2]
    · simp [h1])
  clear hr
  refine go ?_
  refine go_join [(1, .slice al lay.length cl), (2, .slice aw ws.length cw), (3, .pointer (some ⟨b3, 0, none⟩)), (6, .slice none 0 0), (7, .int .i64 0), (10, .int .i64 (if ¬ e = 0 then e else layL t lay))] [.cells b3 [.slice t.ao t.os.length t.co, .int .i64 t.data, .int .i64 t.lines, .slice t.ap t.ps.length t.cp]] ?_ ?_
  · refine go_if (fun h => ?_) (fun h => ?_)
    · have h1 : e = 0 := by simpa using h
      have hk := hok h1
      rw [if_neg (by simpa using h1)]
      clear h h1
      refine go ?_
      refine GoL.cv (fun w' hw => rlayout_v t hk lay al cl w' hn (hw.old hl) hll.1) ?_
      refine go ?_
      exact xj_n (by simp [AgreeL, At]) sb
    · have h1 : ¬ e = 0 := by simpa using h
      rw [if_pos h1]
      clear h h1
      refine go ?_
      exact xj_n (by simp [AgreeL, At]) sb
  have hE1 : (if ¬ e = 0 then e else layL t lay) = 0 → t.Ok := fun h => by
    by_cases h1 : e = 0
    · exact hok h1
    · rw [if_pos h1] at h; exact absurd h h1
  generalize (if ¬ e = 0 then e else layL t lay) = E1 at hE0 hE1 ⊢
  refine go ?_
  refine GoL.jk 6 [(37, .bool (decide (E1 = 0 ∧ ¬ (ws.length : Int) = t.data)))] [1, 2, 3, 6, 7, 10] ?_ ?_
  · refine GoL.sp (fun h1 => ?_) (fun h1 => ?_)
    · refine go ?_
      exact GoL.jd (by by_cases h9 : (ws.length : Int) = t.data <;> simp [AgreeL, At, h1, h9]) sb
    · refine go ?_
      exact GoL.jd (by simp [AgreeL, At, h1]) sb
  refine go ?_
  refine go_join [(1, .slice al lay.length cl), (2, .slice aw ws.length cw), (3, .pointer (some ⟨b3, 0, none⟩)), (6, .slice none 0 0), (7, .int .i64 0), (10, .int .i64 (layE0 t lay ws))] [.cells b3 [.slice t.ao t.os.length t.co, .int .i64 t.data, .int .i64 t.lines, .slice t.ap t.ps.length t.cp]] ?_ ?_
  · refine go_if (fun h => ?_) (fun h => ?_)
    · have hz : layE0 t lay ws = 3 := by rw [hE0.out, if_neg (by simpa using h.1), if_pos (by simpa using h.2)]
      rw [hz]
      clear h hz
      refine go ?_
      exact xj_n (by simp [AgreeL, At]) sb
    · have hz : layE0 t lay ws = E1 := by
        rw [hE0.out]
        by_cases h1 : E1 = 0
        · have h2 : (ws.length : Int) = t.data := Classical.byContradiction fun h3 => h ⟨h1, h3⟩
          rw [if_neg (by simpa using h1), if_neg (by simpa using h2), h1]
        · rw [if_pos h1]
      rw [hz]
      clear h hz
      refine go ?_
      exact xj_n (by simp [AgreeL, At]) sb
  have hF := hid (layF_E0 t lay ws)
  have hOk := hid (layE0_ok (t := t) (lay := lay) (ws := ws))
  have hTk : layE0 t lay ws = 0 → t.Ok := fun h => by
    refine hE1 ?_
    have := hE0.out
    rw [h] at this
    by_cases h1 : E1 = 0
    · exact h1
    · rw [if_pos h1] at this; exact this.symm
  clear hE0 hE1
  generalize layE0 t lay ws = E at *
  refine go ?_
  refine go_loop (X := Nat × Int) (fun y => y.1 ≤ ws.length ∧ ((y.2 = E ∧ ∀ j, j < y.1 → ¬ outP (lx ws j) 0 16777215) ∨ (E = 0 ∧ y.2 = 7 ∧ ∃ j, j < ws.length ∧ outP (lx ws j) 0 16777215))) (fun y => ws.length - y.1) (fun y => [(11, .int .i64 y.1), (10, .int .i64 y.2)]) (fun _ => [.cells b3 [.slice t.ao t.os.length t.co, .int .i64 t.data, .int .i64 t.lines, .slice t.ap t.ps.length t.cp]]) (0, E) [1, 2, 3, 6, 7] ⟨Nat.zero_le _, .inl ⟨rfl, fun j hj => by omega⟩⟩ (by simp [AgreeL, At]) sb (fun y hy => ?_)
  obtain ⟨i', e'⟩ := y
  obtain ⟨hi, hI⟩ := hy
  dsimp only at hi hI ⊢
  refine go ?_
  refine GoL.jk 3 [(45, .bool (decide (i' < ws.length ∧ e' = 0)))] [1, 2, 3, 6, 7, 11, 10] ?_ ?_
  · refine GoL.sp (fun h1 => ?_) (fun h1 => ?_)
    · refine go ?_
      exact GoL.jd (by by_cases h9 : e' = 0 <;> simp [AgreeL, At, h1, h9]) sb
    · refine go ?_
      exact GoL.jd (by simp [AgreeL, At, h1]) sb
  refine go ?_
  refine go_if (fun h => ?_) (fun h => ?_)
  · obtain ⟨h1, h2⟩ := h
    rcases hI with ⟨g1, g2⟩ | ⟨_, g1, _⟩
    rotate_left
    · exact absurd (h2.symm.trans g1) (by decide)
    have gE2 := hid (show E = 0 by rw [← g1]; exact h2)
    subst h2
    clear g1 hF hOk hTk
    refine go ?_
    refine GoL.cv (fun w' hw => rWord_v _ w') ?_
    refine go ?_
    refine go_if (fun h3 => ?_) (fun h3 => ?_)
    · have hx := hid (show ∃ j, j < ws.length ∧ outP (lx ws j) 0 16777215 from ⟨i', h1, h3⟩)
      refine go ?_
      exact go_again (i' + 1, 7) ⟨h1, .inr ⟨gE2.out, rfl, hx.out⟩⟩ (by simp only; omega) (by simp [AgreeL, At]) sb
    · refine go ?_
      exact go_again (i' + 1, 0) ⟨h1, .inl ⟨gE2.out.symm, fun j hj => by
        dsimp only at hj
        by_cases e : j = i'
        · rw [e]; exact h3
        · exact g2 j (by omega)⟩⟩ (by simp only; omega) (by simp [AgreeL, At]) sb
  have hEF : e' = layF t lay ws := by
    rw [hF.out]
    rcases hI with ⟨g1, g2⟩ | ⟨g0, g1, j, g2, g3⟩
    · by_cases hE : E = 0
      · have hi9 : i' = ws.length := Classical.byContradiction fun hne => h ⟨by omega, by rw [g1, hE]⟩
        have hany : ¬ (ws.any (fun n => decide (outP n 0 16777215)) = true) := fun ha => by
          obtain ⟨z, hz, h9⟩ := List.any_eq_true.1 ha
          obtain ⟨j, hj, rfl⟩ := List.mem_iff_getElem.1 hz
          rw [← lx_eq hj] at h9
          exact g2 j (by omega) (by simpa using h9)
        rw [if_neg (by simpa using hE), if_neg hany, g1, hE]
      · rw [if_pos hE, g1]
    · rw [if_neg (by simpa using g0), if_pos (List.any_eq_true.2 ⟨_, lx_mem g2, by simpa using g3⟩), g1]
  clear h hI
  subst hEF
  refine go ?_
  by_cases hz : layF t lay ws = 0
  rotate_left
  · have hb : (layF t lay ws != 0) = true := by simpa using hz
    have hR := hid (show rLayL t lay ws = [] by unfold rLayL; rw [if_neg hz])
    rw [hb]
    clear hz hF hOk hTk hb
    refine go ?_
    refine end2 (fun w' hw => ⟨(none, 0), by rw [hR.out], ?_⟩)
    rw [hR.out]
    exact ⟨hw.below, fun _ => False, fun _ h => h.elim, ⟨fun _ h => absurd rfl h, .inl rfl⟩, trivial⟩
  have hEz : E = 0 := by
    have h1 := hF.out
    rw [hz] at h1
    by_cases h2 : E = 0
    · exact h2
    · rw [if_pos h2] at h1; exact h1.symm
  have htok := hTk hEz
  obtain ⟨_, hL, hwd⟩ := hOk.out hEz
  have hRL := hid (show rLayL t lay ws = layW t lay ws by unfold rLayL; rw [if_pos hz])
  rw [show (layF t lay ws != 0) = false by simpa using hz, hz]
  have hPD := hid (putD_lay (ws := ws) htok hL hwd)
  have hwd2 := hid hwd
  have hd1 := htok.d1
  have hl1 := htok.l1
  have hn1 := htok.n1
  have hto := hT.o
  obtain ⟨q1, q2, _⟩ := layE_ok hL
  have q1' := hid q1
  have hw17 : ws.length ≤ 16 := by omega
  have hlb : ∀ i, i < lay.length → 0 ≤ lx lay i ∧ lx lay i < 128 := fun i hi => by have := q2 _ (lx_mem hi); omega
  have hll40 : lay.length ≤ 40 := by omega
  have hnl : t.os.length ≤ lay.length := by omega
  have hnw : t.os.length + ws.length = lay.length := by omega
  have hnw2 := hid hnw
  clear hz hEz hF hOk hTk hwd q1 q2 hL hnw
  have hodd := fun i (hi : i < t.os.length) => hid (oddL_ok (htok.o _ (lx_mem hi)))
  have hD : ∀ z : Int, 0 ≤ z → lx lay ((t.os.length : Int) + z).toNat = lx (lay.drop t.os.length) z.toNat := fun z hz => by
    rw [lx_drop]; congr 1; omega
  have hdb : ∀ j, j < ws.length → 0 ≤ lx (lay.drop t.os.length) j ∧ lx (lay.drop t.os.length) j ≤ 127 := fun j hj => by
    rw [lx_drop]; have := hlb (j + t.os.length) (by have := hnw2.out; omega); omega
  refine go ?_
  refine GoL.mks (f := icell) rfl elI elI' (k := 128) (by omega) (fun g => ?_)
  refine go ?_
  generalize hdat : lay.drop t.os.length = dat at *
  refine go_loop (X := Nat) (fun k => k ≤ t.os.length) (fun k => t.os.length - k) (fun k => [(14, .int .i64 k)]) (fun k => [.cells g (ic (putO t.os lay dat (List.replicate 128 0) k)), .cells b3 [.slice t.ao t.os.length t.co, .int .i64 t.data, .int .i64 t.lines, .slice t.ap t.ps.length t.cp]]) 0 [1, 2, 3, 7, 12, 13] (Nat.zero_le _) (by simp [AgreeL, At]) sb (fun k hk => ?_)
  have HOL := hid (putO_len t.os lay dat (List.replicate 128 0) (by simp) k)
  refine go ?_
  refine go_if (fun h => ?_) (fun h => ?_)
  · have hk2 : k < t.os.length := by omega
    have ho := hodd k hk2
    have hkb := hlb k (by omega)
    have HPO : Hid (putO t.os lay dat (List.replicate 128 0) (k + 1) = (putO t.os lay dat (List.replicate 128 0) k).set (lx lay k).toNat (ordW lay dat (lx t.os k))) := hid rfl
    generalize putO t.os lay dat (List.replicate 128 0) k = S at HOL HPO ⊢
    refine go ?_
    generalize lx t.os k = o at ho HPO ⊢
    refine GoL.a (fun b15 => ?_)
    refine go ?_
    refine GoL.a (fun b16 => ?_)
    refine go ?_
    refine GoL.cv (fun w' hw => rfrom_v o w') ?_
    refine go ?_
    obtain ⟨F, hvF⟩ : ∃ z, z = (if fromB o.op = true then lx dat o.fr.toNat else 0) := ⟨_, rfl⟩
    refine go_join [(1, .slice al lay.length cl), (2, .slice aw ws.length cw), (3, .pointer (some ⟨b3, 0, none⟩)), (7, .int .i64 0), (12, .slice (some ⟨g, 0, none⟩) 128 128), (13, .int .i64 t.os.length), (14, .int .i64 k), (15, .pointer (some ⟨b15, 0, none⟩)), (16, .pointer (some ⟨b16, 0, none⟩))] [.cells b16 [.int .i64 o.op, .int .i64 F, .int .i64 0, .int .i64 0], .cells b15 [.int .i64 o.op, .int .i64 o.fr, .int .i64 o.tt, .int .i64 o.nx], .cells g (ic S), .cells b3 [.slice t.ao t.os.length t.co, .int .i64 t.data, .int .i64 t.lines, .slice t.ap t.ps.length t.cp]] ?_ ?_
    · refine go_if (fun h => ?_) (fun h => ?_)
      · have hc : fromB o.op = true := by first | exact h | simpa using h
        have hv := hid (hvF.trans (if_pos hc))
        have hb := ho.out.2.1 hc
        have hb0 := hb.1
        have hb1 : (t.os.length : Int) + o.fr < lay.length := by have := hnw2.out; have := hwd2.out; omega
        clear hvF h
        replace hc := hid hc
        refine go ?_
        first | rw [hD _ (by assumption)] | skip
        rw [hv.out]
        exact xj_n (by simp [AgreeL, At]) sb
      · have hc : ¬ (fromB o.op = true) := by first | exact h | simpa using h
        have hv := hid (hvF.trans (if_neg hc))
        clear hvF h
        replace hc := hid hc
        refine go ?_
        rw [hv.out]
        exact xj_n (by simp [AgreeL, At]) sb
    have HvF := hid hvF
    clear hvF
    refine go ?_
    refine GoL.cv (fun w' hw => rto_v o w') ?_
    refine go ?_
    obtain ⟨A, hvA⟩ : ∃ z, z = (if toB o.op = true then lx dat o.tt.toNat else 0) := ⟨_, rfl⟩
    refine go_join [(1, .slice al lay.length cl), (2, .slice aw ws.length cw), (3, .pointer (some ⟨b3, 0, none⟩)), (7, .int .i64 0), (12, .slice (some ⟨g, 0, none⟩) 128 128), (13, .int .i64 t.os.length), (14, .int .i64 k), (15, .pointer (some ⟨b15, 0, none⟩)), (16, .pointer (some ⟨b16, 0, none⟩))] [.cells b16 [.int .i64 o.op, .int .i64 F, .int .i64 A, .int .i64 0], .cells b15 [.int .i64 o.op, .int .i64 o.fr, .int .i64 o.tt, .int .i64 o.nx], .cells g (ic S), .cells b3 [.slice t.ao t.os.length t.co, .int .i64 t.data, .int .i64 t.lines, .slice t.ap t.ps.length t.cp]] ?_ ?_
    · refine go_if (fun h => ?_) (fun h => ?_)
      · have hc : toB o.op = true := by first | exact h | simpa using h
        have hv := hid (hvA.trans (if_pos hc))
        have hb := ho.out.2.2.1 hc
        have hb0 := hb.1
        have hb1 : (t.os.length : Int) + o.tt < lay.length := by have := hnw2.out; have := hwd2.out; omega
        clear hvA h
        replace hc := hid hc
        refine go ?_
        first | rw [hD _ (by assumption)] | skip
        rw [hv.out]
        exact xj_n (by simp [AgreeL, At]) sb
      · have hc : ¬ (toB o.op = true) := by first | exact h | simpa using h
        have hv := hid (hvA.trans (if_neg hc))
        clear hvA h
        replace hc := hid hc
        refine go ?_
        rw [hv.out]
        exact xj_n (by simp [AgreeL, At]) sb
    have HvA := hid hvA
    clear hvA
    refine go ?_
    obtain ⟨B, hvB⟩ : ∃ z, z = (if o.op = 5 then lx lay o.tt.toNat else A) := ⟨_, rfl⟩
    refine go_join [(1, .slice al lay.length cl), (2, .slice aw ws.length cw), (3, .pointer (some ⟨b3, 0, none⟩)), (7, .int .i64 0), (12, .slice (some ⟨g, 0, none⟩) 128 128), (13, .int .i64 t.os.length), (14, .int .i64 k), (15, .pointer (some ⟨b15, 0, none⟩)), (16, .pointer (some ⟨b16, 0, none⟩))] [.cells b16 [.int .i64 o.op, .int .i64 F, .int .i64 B, .int .i64 0], .cells b15 [.int .i64 o.op, .int .i64 o.fr, .int .i64 o.tt, .int .i64 o.nx], .cells g (ic S), .cells b3 [.slice t.ao t.os.length t.co, .int .i64 t.data, .int .i64 t.lines, .slice t.ap t.ps.length t.cp]] ?_ ?_
    · refine go_if (fun h => ?_) (fun h => ?_)
      · have hc : o.op = 5 := by first | exact h | simpa using h
        have hv := hid (hvB.trans (if_pos hc))
        have hb := ho.out.2.2.2 o.tt ((leads_mem o o.tt).2 (.inr ⟨hc, rfl⟩))
        have hb0 := hb.1
        have hb1 : o.tt < lay.length := by omega
        clear hvB h
        replace hc := hid hc
        refine go ?_
        first | rw [hD _ (by assumption)] | skip
        rw [hv.out]
        exact xj_n (by simp [AgreeL, At]) sb
      · have hc : ¬ (o.op = 5) := by first | exact h | simpa using h
        have hv := hid (hvB.trans (if_neg hc))
        clear hvB h
        replace hc := hid hc
        refine go ?_
        rw [hv.out]
        exact xj_n (by simp [AgreeL, At]) sb
    have HvB := hid hvB
    clear hvB
    refine go ?_
    refine GoL.cv (fun w' hw => rleads_v o w') ?_
    refine go ?_
    obtain ⟨N, hvN⟩ : ∃ z, z = (if ¬ o.op = 0 then lx lay o.nx.toNat else 0) := ⟨_, rfl⟩
    refine go_join [(1, .slice al lay.length cl), (2, .slice aw ws.length cw), (3, .pointer (some ⟨b3, 0, none⟩)), (7, .int .i64 0), (12, .slice (some ⟨g, 0, none⟩) 128 128), (13, .int .i64 t.os.length), (14, .int .i64 k), (15, .pointer (some ⟨b15, 0, none⟩)), (16, .pointer (some ⟨b16, 0, none⟩))] [.cells b16 [.int .i64 o.op, .int .i64 F, .int .i64 B, .int .i64 N], .cells b15 [.int .i64 o.op, .int .i64 o.fr, .int .i64 o.tt, .int .i64 o.nx], .cells g (ic S), .cells b3 [.slice t.ao t.os.length t.co, .int .i64 t.data, .int .i64 t.lines, .slice t.ap t.ps.length t.cp]] ?_ ?_
    · refine go_if (fun h => ?_) (fun h => ?_)
      · have hc : ¬ o.op = 0 := by first | exact h | simpa using h
        have hv := hid (hvN.trans (if_pos hc))
        have hb := ho.out.2.2.2 o.nx ((leads_mem o o.nx).2 (.inl ⟨hc, rfl⟩))
        have hb0 := hb.1
        have hb1 : o.nx < lay.length := by omega
        clear hvN h
        replace hc := hid hc
        refine go ?_
        first | rw [hD _ (by assumption)] | skip
        rw [hv.out]
        exact xj_n (by simp [AgreeL, At]) sb
      · have hc : ¬ (¬ o.op = 0) := by first | exact h | simpa using h
        have hv := hid (hvN.trans (if_neg hc))
        clear hvN h
        replace hc := hid hc
        refine go ?_
        rw [hv.out]
        exact xj_n (by simp [AgreeL, At]) sb
    have HvN := hid hvN
    clear hvN
    refine go ?_
    have bF : 0 ≤ F ∧ F ≤ 127 := by rw [HvF.out]; split; (rename_i h9; exact hdb _ (by have := ho.out.2.1 h9; have := hwd2.out; omega)); omega
    have bA : 0 ≤ A ∧ A ≤ 127 := by rw [HvA.out]; split; (rename_i h9; exact hdb _ (by have := ho.out.2.2.1 h9; have := hwd2.out; omega)); omega
    have bB : 0 ≤ B ∧ B ≤ 127 := by rw [HvB.out]; split; (rename_i h9; have h8 := ho.out.2.2.2 o.tt ((leads_mem o o.tt).2 (.inr ⟨h9, rfl⟩)); have := hlb o.tt.toNat (by omega); omega); exact bA
    have bN : 0 ≤ N ∧ N ≤ 127 := by rw [HvN.out]; split; (rename_i h9; have h8 := ho.out.2.2.2 o.nx ((leads_mem o o.nx).2 (.inl ⟨h9, rfl⟩)); have := hlb o.nx.toNat (by omega); omega); omega
    have hOW := hid (show encI o.op F B N = ordW lay dat o by rw [HvF.out, HvB.out, HvA.out, HvN.out]; unfold ordW; by_cases h9 : o.op = 0 <;> simp [h9])
    refine D.cv (fun F' w' hw => rWritten_v o.op F B N ⟨ho.out.1, bF, bB, bN⟩ w') ?_
    refine go ?_
    refine GoL.sa (b := g) (l := S) (i := (lx lay k).toNat) (z := encI o.op F B N) rp (by have := HOL.out; omega) ?_
    rw [hOW.out, ← HPO.out]
    refine go ?_
    exact go_again (k + 1) hk2 (by omega) (by simp [AgreeL, At]) sb
  obtain rfl : k = t.os.length := by omega
  generalize putO t.os lay dat (List.replicate 128 0) t.os.length = S0 at HOL hPD ⊢
  refine go ?_
  refine go_loop (X := Nat) (fun k => k ≤ ws.length) (fun k => ws.length - k) (fun k => [(17, .int .i64 k)]) (fun k => [.cells g (ic (putD S0 dat ws k))]) 0 [1, 2, 7, 12, 13] (Nat.zero_le _) (by simp [AgreeL, At]) sb (fun k hk => ?_)
  have HDL := hid (putD_len dat ws HOL.out k)
  refine go ?_
  refine go_if (fun h => ?_) (fun h => ?_)
  · have hk2 : k < ws.length := by omega
    have hkb : 0 ≤ lx dat k ∧ lx dat k < 128 := by have := hdb k hk2; omega
    have hDk := hD k (by omega)
    rw [Int.toNat_natCast] at hDk
    have hin : (t.os.length : Int) + k < lay.length := by have := hnw2.out; omega
    refine go ?_
    rw [hDk]
    refine go ?_
    refine GoL.sa (b := g) (l := putD S0 dat ws k) (i := (lx dat k).toNat) (z := lx ws k) rp (by have := HDL.out; omega) ?_
    refine go ?_
    exact go_again (k + 1) hk2 (by omega) (by simp [AgreeL, At]) sb
  obtain rfl : k = ws.length := by omega
  refine go ?_
  refine end2 (fun w' hw => ⟨(some ⟨g, 0, none⟩, 128), by rw [hRL.out, ← hPD.out, HDL.out], ?_⟩)
  dsimp only
  rw [hRL.out, ← hPD.out]
  exact (hw.c2r (f := icell) (m := 1) (putD S0 dat ws ws.length) .here (fun _ => rfl) (ic_flat _).symm).done sb
end

section
set_option linter.all false
set_option pp.maxSteps 100000
set_option maxRecDepth 100000
set_option maxHeartbeats 4000000
open Go.RowKit

theorem layW_len (t : TD) (lay ws : List Int) : (layW t lay ws).length = 128 := putO_len _ _ _ _ (putW_len _ _ _) _
theorem lays_walk (t : TD) (lay ws : List Int) (al aw : Option Addr) (cl cw : Nat) (w : World) (hn : t.Len) (hT : t.At w) (hl : Rd icell 1 w al lay) (hll : lay.length ≤ 9223372036854775807 ∧ lay.length ≤ cl) (hw : Rd icell 1 w aw ws) (hwl : ws.length ≤ 9223372036854775807) :
    Calls Tryz.prog 6 #[.agg #[.slice t.ao t.os.length t.co, .int .i64 t.data, .int .i64 t.lines, .slice t.ap t.ps.length t.cp], .slice al lay.length cl, .slice aw ws.length cw] w (fun e w' => e = .returned (.bool true) ∧ Below w.heap.size w w') := by
  refine go_in Tryz.func6 rfl Tryz.ntmps6 [] [] (Mem.start _) ?_
  refine go ?_
  refine GoL.a (fun b3 => ?_)
  refine go ?_
  have hI : ∀ (l : List Int) (n : Nat), l.length = n → ∀ (a a2 : Option Addr) (c c2 : Nat) (w : World), Rd icell 1 w a l → Rd icell 1 w a2 l → n ≤ 128 → Calls Tryz.prog 23 #[.slice a n c, .slice a2 l.length c2] w (fun e w' => e = .returned (.bool true) ∧ Below w.heap.size w w') := fun l n hn a a2 c c2 w h1 h2 h3 => by
    subst hn
    have := Ints_v l l a a2 c c2 w h1 h2 (by omega) (by omega)
    rw [decide_eq_true rfl] at this
    exact this
  have hI2 := hid hI
  clear hI
  by_cases he : layF t lay ws = 0
  · have hR := hid (show rLayL t lay ws = layW t lay ws by unfold rLayL; rw [if_pos he])
    have hL := hid (layW_len t lay ws)
    refine GoL.c (fun w' hw2 => Lay_ok t lay ws al aw cl cw w' hn (hT.old hw2) (hw2.old hl) hll (hw2.old hw) he) (fun g => ?_)
    refine go ?_
    refine GoL.c (fun w' hw2 => rLay_v t lay ws al aw cl cw w' hn (hT.old hw2) (hw2.old hl) hll (hw2.old hw) hwl) (fun q => ?_)
    rw [he, hR.out]
    generalize layW t lay ws = W9 at *
    clear he hR
    refine go ?_
    refine GoL.cv (fun w' hw2 => hI2.out W9 128 hL.out _ _ _ _ w' (rdC (hw2.cells pk)) (hw2.rd pk) (by decide)) ?_
    refine go ?_
    refine GoL.cv (fun w' hw => awake_v w') ?_
    refine go ?_
    exact ev1 rfl
  · have hR := hid (show rLayL t lay ws = [] by unfold rLayL; rw [if_neg he])
    refine GoL.cv (fun w' hw2 => Lay_bad t lay ws al aw cl cw w' hn (hT.old hw2) (hw2.old hl) hll (hw2.old hw) hwl he) ?_
    refine go ?_
    refine GoL.c (fun w' hw2 => rLay_v t lay ws al aw cl cw w' hn (hT.old hw2) (hw2.old hl) hll (hw2.old hw) hwl) (fun q => ?_)
    rw [hR.out]
    clear he hR
    refine go ?_
    refine GoL.cv (fun w' hw2 => hI2.out [] 0 rfl _ _ _ _ w' (.inl rfl) (hw2.rd pk) (by decide)) ?_
    refine go ?_
    refine GoL.cv (fun w' hw => awake_v w') ?_
    refine go ?_
    exact ev1 rfl
end


end Go.Proofs.YtigehmghcafblaaGreat
