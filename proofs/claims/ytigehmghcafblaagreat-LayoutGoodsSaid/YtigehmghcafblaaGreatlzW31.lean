/- layout: Good: plain laws. -/
import Derived.Test.YtigehmghcafblaaGreatlzW21
import Derived.Test.YtigehmghcafblaaGreatlzG6
import Derived.Test.YtigehmghcafblaaGreatlzY2
set_option linter.all false
namespace Go.Proofs.YtigehmghcafblaaGreat

section
set_option linter.all false
set_option pp.maxSteps 100000
set_option maxRecDepth 100000
set_option maxHeartbeats 4000000
open Go.RowKit

def wholeB (t : TD) (i : Nat) (l : List LaP) : Bool := decide (¬ l = [] ∧ lx l 0 = ⟨(i : Int), 0, ((evsE t i).length : Int) - 1⟩)
def restL (t : TD) (i : Nat) (l : List LaP) : List LaP := if wholeB t i l = true then l.tail else l
/-- the bound of the first paths, and the pairs that are left -/
def accTo (t : TD) (S : List LaP) : Nat → Option (Int × List LaP)
  | 0 => some (0, S)
  | i + 1 => match accTo t S i with
    | none => none
    | some (b, l) => match valA (S.length + 1) i 0 (((evsE t i).length : Int) - 1) (restL t i l) 0 0 with
      | none => none
      | some (n, l') => some (b + (lx t.ps i).cnt * (if wholeB t i l = true then upI n else n), l')
def accR (t : TD) (l : List LaP) : Int × Int :=
  if ¬ (chkL t).2.2 = 0 then (0, (chkL t).2.2) else if 1500 < l.length then (0, 3) else if ¬ judgeL t l = 0 then (0, judgeL t l) else
  match accTo t (srtP l) t.ps.length with
  | none => (0, 160)
  | some (b, _) => (b, 0)
theorem accTo_none {t : TD} {S : List LaP} {i : Nat} (h : accTo t S i = none) : ∀ j, i ≤ j → accTo t S j = none
  | 0, hj => by
    obtain rfl : i = 0 := by omega
    exact h
  | j + 1, hj => by
    rcases Nat.lt_or_ge i (j + 1) with h1 | h1
    · rw [accTo, accTo_none h j (by omega)]
    · obtain rfl : i = j + 1 := by omega
      exact h
theorem judge_ok {t : TD} {l : List LaP} (h : judgeL t l = 0) : ∀ p ∈ l, judgeP t p = 0 := by
  unfold judgeL at h
  rcases firstBad_i (f := fun i => judgeP t (lx l i)) (n := l.length) with ⟨_, h2⟩ | ⟨i, h1, _, h3⟩
  · intro p hp
    obtain ⟨j, hj, rfl⟩ := List.mem_iff_getElem.1 hp
    have := h2 j hj; rwa [lx_eq hj] at this
  · rw [h1] at h; exact absurd h h3
theorem judgeP_ok {t : TD} {p : LaP} (h : judgeP t p = 0) : (0 ≤ p.path ∧ p.path < t.ps.length) ∧ 0 ≤ p.fr ∧ p.fr < p.tt ∧ p.tt < (evsE t p.path.toNat).length ∧ itE t p.path.toNat p.fr.toNat = itE t p.path.toNat p.tt.toNat := by
  unfold judgeP at h
  split at h
  · cases h
  split at h
  · cases h
  split at h
  · cases h
  rename_i h1 h2 h3
  unfold outP at h1 h2
  have h4 : itE t p.path.toNat p.fr.toNat = itE t p.path.toNat p.tt.toNat := Classical.byContradiction fun h => h3 (.inr h)
  have h5 : ¬ p.tt ≤ p.fr := fun h => h3 (.inl h)
  exact ⟨by omega, by omega, by omega, by omega, h4⟩
/-- the pairs that are left, wherever -/
def leftE (bL : Nat) (l : List LaP) : En := .ex fun p : Option Addr × Nat => .star [.pure (l.length ≤ p.2), .cells bL [.slice p.1 l.length p.2], .rd LaP.cs 3 p.1 l]
theorem Mem.leftI {w0 w : World} {Bs : List Nat} {H : List En} {bL : Nat} {l : List LaP} {a : Option Addr} {c : Nat} (hc : l.length ≤ c) (h : Mem w0 Bs (.cells bL [.slice a l.length c] :: .rd LaP.cs 3 a l :: H) w) : Mem w0 Bs (leftE bL l :: H) w :=
  Mem.exI (a, c) (Mem.starI (A := [_, _, _]) (Mem.pureI hc h))
theorem Mem.leftO {w0 w : World} {Bs : List Nat} {H : List En} {bL : Nat} {l : List LaP} (h : Mem w0 Bs (leftE bL l :: H) w) : ∃ p : Option Addr × Nat, Mem w0 Bs (.pure (l.length ≤ p.2) :: .cells bL [.slice p.1 l.length p.2] :: .rd LaP.cs 3 p.1 l :: H) w := by
  obtain ⟨p, hp⟩ := h.exs; exact ⟨p, hp.flat⟩
theorem Accept_v (t : TD) (l : List LaP) (al : Option Addr) (cl : Nat) (w : World) (hn : t.Len) (hT : t.At w) (hl : Rd LaP.cs 3 w al l) (hll : l.length ≤ 9223372036854775807) :
    Calls Tryz.prog 19 #[.agg #[.slice t.ao t.os.length t.co, .int .i64 t.data, .int .i64 t.lines, .slice t.ap t.ps.length t.cp], .slice al l.length cl] w (fun e w' => e = .returned (.tuple #[.int .i64 (accR t l).1, .int .i64 (accR t l).2]) ∧ Below w.heap.size w w') := by
  obtain ⟨⟨p, i, e⟩, hr⟩ : ∃ q : Int × Int × Int, q = chkL t := ⟨_, rfl⟩
  refine go_in Tryz.func19 rfl Tryz.ntmps19 [] [] (Mem.start _) ?_
  refine go ?_
  refine GoL.a (fun b2 => ?_)
  refine go ?_
  by_cases he : e = 0
  rotate_left
  · refine GoL.cv (fun w' hw => open_bad t p i e w' hn (hT.old hw) hr.symm he) ?_
    refine go ?_
    refine go_if (fun h => ?_) (fun h => ?_)
    rotate_left
    · exact absurd h he
    refine go ?_
    refine ev2 ?_
    rw [accR, ← hr, if_pos he]
    exact ⟨rfl, rfl⟩
  subst he
  refine GoL.c (fun w' hw => open_ok t p i w' hn (hT.old hw) hr.symm) (fun x => ?_)
  obtain ⟨x, b⟩ := x
  refine GoL.pure (fun hx => ?_)
  dsimp only at hx ⊢
  obtain ⟨rfl, hes, hcap⟩ := hx
  have htok := chkL_ok hr.symm
  have hok := plan_ok htok hes hcap
  have HE := hid hok.e1
  have hp1 := hok.p1
  have htp := hT.p
  have hA : accR x.t l = if 1500 < l.length then (0, 3) else if ¬ judgeL x.t l = 0 then (0, judgeL x.t l) else match accTo x.t (srtP l) x.t.ps.length with
    | none => (0, 160)
    | some (b, _) => (b, 0) := by rw [accR, ← hr, if_neg (by simp)]
  have HA := hid hA
  clear hA
  refine go ?_
  refine go_if (fun h => ?_) (fun h => ?_)
  · refine go ?_
    refine ev2 ?_
    rw [HA.out, if_pos (by omega)]
    exact ⟨rfl, rfl⟩
  refine go ?_
  refine GoL.cv (fun w' hw => judge_v x b l al cl w' (hw.plan pk (hT.old hw)) hok hes (hw.old hl) (by omega)) ?_
  refine go ?_
  refine go_if (fun h2 => ?_) (fun h2 => ?_)
  · refine go ?_
    refine ev2 ?_
    rw [HA.out, if_neg (by omega), if_pos h2]
    exact ⟨rfl, rfl⟩
  have hjo := judge_ok h2
  have hel : ∀ i, i < x.t.ps.length → 1 ≤ (evsE x.t i).length ∧ (evsE x.t i).length ≤ 93 := fun i hi => by
    have h1 : evsE x.t i = pathE x.t.os (lx x.t.ps i).os := by rw [evsE, openE, lx_map hi]
    rw [h1]; exact pathE_len _ _ (wildL_ok (htok.w _ (lx_mem hi))).1.2
  have hpr : ∀ p ∈ l, (0 ≤ p.path ∧ p.path ≤ 8) ∧ 0 ≤ p.fr ∧ p.fr < p.tt ∧ p.tt ≤ 92 := fun p hp => by
    have h1 := judgeP_ok (hjo p hp)
    have h3 := hel p.path.toNat (by omega)
    omega
  refine go ?_
  refine GoL.c (fun w' hw => cloneP_v l al cl w' (hw.old hl) (by omega)) (fun q => ?_)
  obtain ⟨a, c⟩ := q
  dsimp only
  refine GoL.fact (p := l.length ≤ c) (fun w hw => (hw.own (l := l) pk).cap) (fun hc => ?_)
  refine go ?_
  refine GoL.cm (fun w' hw => sort_v l a c hw (fun p hp => by have := hpr p hp; unfold LaB; omega) (by omega)) (fun _ => ?_)
  have hSl := srtP_len l
  have HS := hid hSl
  generalize hSg : srtP l = S at *
  have hPS : PrOk S := fun p hp => by
    rw [← hSg] at hp
    have := hpr p (srtP_mem.1 hp); omega
  refine go ?_
  refine GoL.a (fun bL => ?_)
  refine go ?_
  refine GoL.a (fun bV => ?_)
  refine go ?_
  rw [← HS.out]
  have hcS : S.length ≤ c := by have := HS.out; omega
  have hS15 : S.length ≤ 1500 := by have := HS.out; omega
  clear hSl hSg
  refine go_loop (X := Nat × Int × List LaP × Option Addr × Nat) (fun y => y.1 ≤ x.t.ps.length ∧ accTo x.t S y.1 = some (y.2.1, y.2.2.1) ∧ y.2.2.1.length ≤ y.2.2.2.2 ∧ y.2.2.1.length ≤ S.length ∧ PrOk y.2.2.1 ∧ 0 ≤ y.2.1 ∧ y.2.1 ≤ 100000000 * y.1) (fun y => x.t.ps.length - y.1) (fun y => [(41, .int .i64 y.1), (4, .int .i64 y.2.1)])
    (fun y => vlH bL bV [.plan x b, .cells b2 [.slice x.t.ao x.t.os.length x.t.co, .int .i64 x.t.data, .int .i64 x.t.lines, .slice x.t.ap x.t.ps.length x.t.cp]] y.2.2.1 y.2.2.2.1 y.2.2.2.2) (0, 0, S, a, c) [6, 7, 8, 39, 40] ⟨Nat.zero_le _, rfl, hcS, Nat.le_refl _, hPS, Int.le_refl _, by simp⟩ (by simp [AgreeL, At]) (Sub.cons pk (Sub.cons pk (Sub.cons pk (Sub.refl _)))) (fun y hy => ?_)
  obtain ⟨k, bd, l1, a, c⟩ := y
  dsimp only at hy ⊢
  obtain ⟨hk, hacc, hc, hl1, hP1, hb0, hb1⟩ := hy
  clear hS15 hcS
  have hS15 : S.length ≤ 1500 := by have := HS.out; omega
  dsimp only [vlH]
  refine go ?_
  refine go_if (fun h3 => ?_) (fun h3 => ?_)
  rotate_left
  · obtain rfl : k = x.t.ps.length := by omega
    refine go ?_
    refine ev2 ?_
    rw [HA.out, if_neg (by omega), if_neg (by simpa using h2), hacc]
    exact ⟨rfl, rfl⟩
  have hk1 : k < x.t.ps.length := by omega
  have hkx : k < x.es.length := by have := HE.out; omega
  have hE := hel k hk1
  have EE := hid (evs_eq hes hkx)
  have hcn := hok.cnt _ (lx_mem hk1)
  refine go ?_
  refine GoL.a (fun b10 => ?_)
  refine go ?_
  refine GoL.q ⟨_, Ex.ld (hc := fun w hw => (hw.plan pk (hT.old hw)).c), ?_⟩
  refine go ?_
  have hk2 : (k : Int) < x.es.length := by omega
  refine GoL.q ⟨_, Ex.ix (l := x.es) (f := EvR.cs) (m := 1) (i := k) (hi := Int.toNat_natCast k) (hc := fun w hw => (hw.plan pk (hT.old hw)).e), ?_⟩
  refine GoL.q ⟨_, Ex.rl (l := x.es) (f := EvR.cs) (hc := fun w hw => (hw.plan pk (hT.old hw)).e), ?_⟩
  rw [EE.out]
  refine go ?_
  have hlast : 0 ≤ ((evsE x.t k).length : Int) - 1 ∧ ((evsE x.t k).length : Int) - 1 ≤ 92 := by omega
  refine GoL.jk 8 [(66, .bool (wholeB x.t k l1))] [4, 6, 7, 8, 9, 10, 11, 39, 40, 41] ?_ ?_
  · refine GoL.sp (fun h4 => ?_) (fun h4 => ?_)
    · refine go ?_
      refine GoL.q ⟨_, Ex.eqP (lx l1 0) ⟨k, 0, ((evsE x.t k).length : Int) - 1⟩, ?_⟩
      refine go ?_
      have h5 : ¬ l1 = [] := fun e => by rw [e] at h4; simp at h4
      exact GoL.jd (by simp [AgreeL, At, wholeB, h5]) sb
    · refine go ?_
      have h5 : l1 = [] := List.eq_nil_of_length_eq_zero (by omega)
      exact GoL.jd (by simp [AgreeL, At, wholeB, h5]) sb
  refine go ?_
  refine go_join [(4, .int .i64 bd), (6, .pointer (some ⟨b, 0, none⟩)), (7, .pointer (some ⟨bL, 0, none⟩)), (8, .pointer (some ⟨bV, 0, none⟩)), (9, .int .i64 k), (10, .pointer (some ⟨b10, 0, none⟩)), (11, .int .i64 (((evsE x.t k).length : Int) - 1)), (12, .bool (wholeB x.t k l1)), (39, .slice x.t.ap x.t.ps.length x.t.cp), (40, .int .i64 x.t.ps.length), (41, .int .i64 k)]
    [leftE bL (restL x.t k l1), .cells bV [.func (.func 57) #[] #[.pointer (some ⟨bL, 0, none⟩), .pointer (some ⟨bV, 0, none⟩)]], .cells b10 [.slice (lx x.t.ps k).a (lx x.t.ps k).os.length (lx x.t.ps k).c, .int .i64 (lx x.t.ps k).cnt], .plan x b, .cells b2 [.slice x.t.ao x.t.os.length x.t.co, .int .i64 x.t.data, .int .i64 x.t.lines, .slice x.t.ap x.t.ps.length x.t.cp]] ?_ ?_
  · refine go_if (fun h4 => ?_) (fun h4 => ?_)
    · have h4' := h4
      simp only [wholeB, decide_eq_true_eq] at h4'
      obtain ⟨pp, r, rfl⟩ : ∃ pp r, l1 = pp :: r := by
        cases l1 with
        | nil => exact absurd rfl h4'.1
        | cons pp r => exact ⟨pp, r, rfl⟩
      have hl9 : 0 < (pp :: r).length := by simp
      have hlr : (pp :: r).length = r.length + 1 := by simp
      refine go ?_
      have e1 : restL x.t k (pp :: r) = r := by rw [restL, if_pos h4]; rfl
      refine GoX.mem (fun w hw => Mem.leftI (l := restL x.t k (pp :: r)) (a := sfA a 1 3 c) (c := c - 1) (by rw [e1]; omega) (by rw [e1]; exact (hw.rdTail (a := a) (c := c) (p := pp) (r := r) rp (by omega)).sub (H' := [_, _, _, _, _, _]) sb)) (xj_n (by simp [AgreeL, At]) sb)
    · refine go ?_
      refine GoX.mem (fun w hw => Mem.leftI (l := restL x.t k l1) (a := a) (c := c) (by rw [restL, if_neg (by rw [h4]; decide)]; exact hc) (by rw [restL, if_neg (by rw [h4]; decide)]; exact hw.sub (H' := [_, _, _, _, _, _]) sb)) (xj_n (by simp [AgreeL, At]) sb)
  have hRl : (restL x.t k l1).length ≤ l1.length ∧ PrOk (restL x.t k l1) := by
    unfold restL; split
    · exact ⟨by simp, fun p hp => hP1 p (List.mem_of_mem_tail hp)⟩
    · exact ⟨Nat.le_refl _, hP1⟩
  have hacc1 : accTo x.t S (k + 1) = match valA (S.length + 1) k 0 (((evsE x.t k).length : Int) - 1) (restL x.t k l1) 0 0 with
      | none => none
      | some (n, l') => some (bd + (lx x.t.ps k).cnt * (if wholeB x.t k l1 = true then upI n else n), l') := by rw [accTo, hacc]
  have HC := hid hacc1
  clear hacc1
  generalize hR : restL x.t k l1 = l2 at hRl HC
  generalize hW : wholeB x.t k l1 = wh at HC
  refine GoC.mx (H' := fun p : Option Addr × Nat => .pure (l2.length ≤ p.2) :: vlH bL bV [.cells b10 [.slice (lx x.t.ps k).a (lx x.t.ps k).os.length (lx x.t.ps k).c, .int .i64 (lx x.t.ps k).cnt], .plan x b, .cells b2 [.slice x.t.ao x.t.os.length x.t.co, .int .i64 x.t.data, .int .i64 x.t.lines, .slice x.t.ap x.t.ps.length x.t.cp]] l2 p.1 p.2) (fun w hw => hw.leftO) (fun p2 => ?_)
  obtain ⟨a2, c2⟩ := p2
  refine GoC.fact (p := l2.length ≤ c2) (fun w hw => hw.pures.1) (fun hc2 => ?_)
  refine GoC.mem (fun w hw => hw.pures.2) ?_
  refine go ?_
  refine GoL.cm (fun w' hw => val_v bL bV (S.length + 1) _ k 0 (((evsE x.t k).length : Int) - 1) l2 a2 c2 w' (by omega) hw hc2 (by omega) hRl.2 (by omega) (by omega) (by omega)) (fun q => ?_)
  have hV := valA_ok (S.length + 1) k 0 (((evsE x.t k).length : Int) - 1) l2 0 0
  cases hv : valA (S.length + 1) k 0 (((evsE x.t k).length : Int) - 1) l2 0 0 with
  | none =>
    simp only [valV, valH]
    refine go ?_
    refine ev2 ?_
    have := HC.out
    rw [hv] at this
    rw [HA.out, if_neg (by omega), if_neg (by simpa using h2), accTo_none this _ (by omega)]
    exact ⟨rfl, rfl⟩
  | some u =>
    obtain ⟨v, l3⟩ := u
    obtain ⟨v1, v2, v3⟩ := hV v l3 hRl.2 (by omega) hv
    have hl3 := v1.length_le
    have hu := upI_ge v
    simp only [valV, valH, vlH]
    refine GoL.pure (fun hc3 => ?_)
    refine go ?_
    refine go_join [(4, .int .i64 bd), (6, .pointer (some ⟨b, 0, none⟩)), (7, .pointer (some ⟨bL, 0, none⟩)), (8, .pointer (some ⟨bV, 0, none⟩)), (10, .pointer (some ⟨b10, 0, none⟩)), (13, .int .i64 (if wh = true then upI v else v)), (39, .slice x.t.ap x.t.ps.length x.t.cp), (40, .int .i64 x.t.ps.length), (41, .int .i64 k)]
      (vlH bL bV [.cells b10 [.slice (lx x.t.ps k).a (lx x.t.ps k).os.length (lx x.t.ps k).c, .int .i64 (lx x.t.ps k).cnt], .plan x b, .cells b2 [.slice x.t.ao x.t.os.length x.t.co, .int .i64 x.t.data, .int .i64 x.t.lines, .slice x.t.ap x.t.ps.length x.t.cp]] l3 q.1 q.2) ?_ ?_
    · refine go_if (fun h4 => ?_) (fun h4 => ?_)
      · refine go ?_
        refine GoL.cv (fun w' hw => up_v v w' (by omega)) ?_
        refine go ?_
        exact xj_n (by simp [AgreeL, At, h4]) (Sub.refl _)
      · refine go ?_
        exact xj_n (by simp [AgreeL, At, h4]) (Sub.refl _)
    generalize hz : (if wh = true then upI v else v) = z
    have hzb : 0 ≤ z ∧ z ≤ 30000 := by rw [← hz]; split <;> omega
    have hm1 : 0 ≤ (lx x.t.ps k).cnt * z := Int.mul_nonneg (by omega) hzb.1
    have hm2 : (lx x.t.ps k).cnt * z ≤ 1000 * 30000 := Int.mul_le_mul hcn.2 hzb.2 hzb.1 (by omega)
    dsimp only [vlH]
    refine go ?_
    refine GoX.mem (H' := vlH bL bV [.plan x b, .cells b2 [.slice x.t.ao x.t.os.length x.t.co, .int .i64 x.t.data, .int .i64 x.t.lines, .slice x.t.ap x.t.ps.length x.t.cp]] l3 q.1 q.2) (fun w hw => hw.sub sb) ?_
    refine go_again (k + 1, bd + (lx x.t.ps k).cnt * z, l3, q.1, q.2) ⟨by simp only; omega, ?_, hc3, by simp only; omega, fun p hp => hRl.2 p (v1.subset hp), by simp only; omega, by simp only; push_cast; omega⟩ (by simp only; omega) (by simp [AgreeL, At]) (Sub.refl _)
    have := HC.out
    rw [hv] at this
    simp only at this ⊢
    rw [this, hz]
end

section
set_option linter.all false
set_option pp.maxSteps 100000
set_option maxRecDepth 100000
set_option maxHeartbeats 4000000
open Go.RowKit

def cmpI (x y : Int) : Int := if x < y then -1 else if y < x then 1 else 0
theorem isNaN_v (x : Int) (w : World) : Calls Tryz.prog 128 #[.int .i64 x] w (fun e w' => e = .returned (.bool false) ∧ Below w.heap.size w w') := by
  refine go_in Tryz.func128 rfl Tryz.ntmps128 [] [] (Mem.start _) ?_
  refine go ?_
  refine ev1 ?_
  simp
theorem cmpI_v (x y : Int) (w : World) : Calls Tryz.prog 109 #[.int .i64 x, .int .i64 y] w (fun e w' => e = .returned (.int .i64 (cmpI x y)) ∧ Below w.heap.size w w') := by
  refine go_in Tryz.func109 rfl Tryz.ntmps109 [] [] (Mem.start _) ?_
  refine go ?_
  refine GoL.cv (fun w' hw => isNaN_v x w') ?_
  refine go ?_
  refine GoL.cv (fun w' hw => isNaN_v y w') ?_
  refine go ?_
  refine go_if (fun h => ?_) (fun h => ?_)
  · refine go ?_
    exact ev1 (by rw [cmpI, if_pos h])
  refine go ?_
  refine go_if (fun h2 => ?_) (fun h2 => ?_)
  · refine go ?_
    exact ev1 (by rw [cmpI, if_neg (by omega), if_pos h2])
  refine go ?_
  exact ev1 (by rw [cmpI, if_neg (by omega), if_neg (by omega)])
def cmpLs : List Int → List Int → Int
  | [], [] => 0
  | [], _ :: _ => -1
  | _ :: _, [] => 1
  | x :: a, y :: b => if cmpI x y = 0 then cmpLs a b else cmpI x y
theorem drop_lx {l : List Int} {i : Nat} (h : i < l.length) : l.drop i = lx l i :: l.drop (i + 1) := by rw [List.drop_eq_getElem_cons h, lx_eq h]
theorem cmpLs_v (l m : List Int) (a a2 : Option Addr) (c c2 : Nat) (w : World) (hl : Rd icell 1 w a l) (hm : Rd icell 1 w a2 m) (hn : l.length ≤ 100000) (hn2 : m.length ≤ 100000) :
    Calls Tryz.prog 68 #[.slice a l.length c, .slice a2 m.length c2] w (fun e w' => e = .returned (.int .i64 (cmpLs l m)) ∧ Below w.heap.size w w') := by
  refine go_in Tryz.func68 rfl Tryz.ntmps68 [] [] (Mem.start _) ?_
  refine go ?_
  refine go_loop (X := Nat) (fun k => k ≤ l.length ∧ k ≤ m.length ∧ cmpLs (l.drop k) (m.drop k) = cmpLs l m) (fun k => l.length - k) (fun k => [(11, .int .i64 k)]) (fun _ => []) 0 [0, 1, 9, 10] ⟨Nat.zero_le _, Nat.zero_le _, rfl⟩ ⟨fun g => rfl, trivial⟩ sb (fun k hk => ?_)
  obtain ⟨hk1, hk2, hk3⟩ := hk
  refine go ?_
  refine go_if (fun h => ?_) (fun h => ?_)
  · have h5 : k < l.length := by omega
    refine go ?_
    refine go_if (fun h2 => ?_) (fun h2 => ?_)
    · refine go ?_
      refine ev1 ?_
      rw [← hk3, drop_lx h5, show m.drop k = [] from List.drop_eq_nil_of_le (by omega)]; rfl
    · have h6 : k < m.length := by omega
      rw [drop_lx h5, drop_lx h6] at hk3
      refine go ?_
      refine GoL.cv (fun w' hw => cmpI_v _ _ w') ?_
      refine go ?_
      refine go_if (fun h3 => ?_) (fun h3 => ?_)
      · refine go ?_
        refine ev1 ?_
        rw [← hk3, cmpLs, if_neg h3]
      · refine go ?_
        rw [cmpLs, if_pos (by simpa using h3)] at hk3
        exact go_again (k + 1) ⟨by omega, by omega, hk3⟩ (by omega) (by simp [AgreeL, At]) sb
  · have hkl : k = l.length := by omega
    rw [show l.drop k = [] from List.drop_eq_nil_of_le (by omega)] at hk3
    refine go ?_
    refine go_if (fun h2 => ?_) (fun h2 => ?_)
    · refine go ?_
      refine ev1 ?_
      rw [← hk3, drop_lx (l := m) (by omega)]; rfl
    · refine go ?_
      refine ev1 ?_
      rw [← hk3, show m.drop k = [] from List.drop_eq_nil_of_le (by omega)]; rfl
/- what Best does -/
def betB (t : TD) (s : List Int) : Option (List Int) → Bool
  | none => true
  | some l => decide (orL [costL t s - costL t l, cmpLs s l] < 0)
def bstF (t : TD) : Nat → List Int → Option (List Int) → Option (List Int)
  | 0, s, o => if betB t s o = true then some s else o
  | k + 1, s, o => (List.range 16).foldl (fun o p => if 0 ≤ lx (freeL s t.lines) p then bstF t k (s ++ [lx (freeL s t.lines) p]) o else o) o
/-- the best one up to now -/
def bestE (bB : Nat) : Option (List Int) → En
  | none => .cells bB [.slice none 0 0]
  | some l => .ex fun p : Nat × Nat × Nat => .star [.pure (l.length ≤ p.2.2), .cells bB [.slice (some ⟨p.1, p.2.1, none⟩) l.length p.2.2], .rd icell 1 (some ⟨p.1, p.2.1, none⟩) l]
end

section
set_option linter.all false
set_option pp.maxSteps 100000
set_option maxRecDepth 100000
set_option maxHeartbeats 4000000
open Go.RowKit

/-- an element of an array of numbers -/
theorem Ex.ia {w0 : World} {Bs : List Nat} {n : Nat} {L : List (Nat × Value)} {H : List En} {d i : Nat} {z : Int} {ty : TypeId} {pos : String} {af : Array Edge} {gd : Option (Nat × Bool)} {x y : Operand} {l : List Int} (hl : l.length = 16) (hi : i < 16) (hz : z = i)
    (hx : ∀ g, evF n (tab L g) x = .agg (ic l).toArray := by intro g; simp only [evF_tmp, tab_cons, Nat.reduceLT, Nat.reduceEqDiff, ↓reduceIte]; (try rfl)) (hy : ∀ g, evF n (tab L g) y = .int .i64 z := by intro g; simp only [evF_tmp, evF_const, tab_cons, Nat.reduceLT, Nat.reduceEqDiff, ↓reduceIte]; (try rfl)) : Ex w0 Bs Tryz.prog n ⟨some d, .index 120 x y, ty, pos, af, gd⟩ L H (.int .i64 (lx l i)) := fun g w hw => by
  subst hz
  have h1 : (ic l).toArray[i]? = some (.int .i64 (lx l i)) := by rw [List.getElem?_toArray]; exact ic_at (by omega)
  have h2 : ∀ (R : Result TypeDesc → Prop), R (.ok (.array 16 3) w) → R ((underlying 120).run Tryz.prog w) := by intro R hR; go_simp; exact hR
  have h3 : ∀ (R : Result Nat → Prop), R (.ok 1 w) → R ((sizeOf 3).run Tryz.prog w) := by intro R hR; go_simp; exact hR
  have h4 : ∀ (R : Result Bool → Prop), R (.ok false w) → R ((isAgg 3).run Tryz.prog w) := by intro R hR; go_simp; exact hR
  have hb : 0 ≤ (i : Int) ∧ (i : Int) < ((16 : Nat) : Int) := by omega
  simp only [execOp, Instr.index, asIntOf, hx g, hy g, Sem.run_bind, Sem.run_pure, Result.andThen_ok, h2 (fun r => r = _) rfl, hb, and_self, if_true, h3 (fun r => r = _) rfl, part, h4 (fun r => r = _) rfl, Bool.false_eq_true, if_false, Int.toNat_natCast, Nat.mul_one, h1]
theorem Sub.appL (G F : List En) : Sub G (G ++ F) := by
  induction G with
  | nil => exact .nil
  | cons e G ih => exact .cons .here ih
/-- what a layout of all items asks for -/
def LayV (t : TD) (l : List Int) : Prop := l.length = t.os.length + t.data.toNat ∧ ∀ a ∈ l, 0 ≤ a ∧ a ≤ 127
abbrev bsH (b bP bB bT : Nat) (G : List En) (s : List Int) (ab ao : Nat) (o : Option (List Int)) : List En :=
  bestE bB o :: .rd icell 1 (some ⟨ab, ao, none⟩) s :: .cells bP [.pointer (some ⟨b, 0, none⟩)] :: .cells bT [.func (.func 66) #[] #[.pointer (some ⟨bP, 0, none⟩), .pointer (some ⟨bB, 0, none⟩), .pointer (some ⟨bT, 0, none⟩)]] :: G
theorem freeP_bd {lay : List Int} {lines : Int} (hl : 1 ≤ lines ∧ lines ≤ 8) {p : Nat} (hp : p < 16) : -1 ≤ freeP lay lines p ∧ freeP lay lines p ≤ 127 := by
  have h : ∀ f (q : Int), 0 ≤ q → 0 ≤ freeV lay q f := by
    intro f
    induction f with
    | zero => intro q hq; exact hq
    | succ f ih => intro q hq; unfold freeV; split; exact ih _ (by omega); exact hq
  have := h 8 p (by omega)
  unfold freeP; split <;> omega
theorem freeL_len (lay : List Int) (lines : Int) : (freeL lay lines).length = 16 := by simp [freeL]
theorem freeL_at {lay : List Int} {lines : Int} {p : Nat} (hp : p < 16) : lx (freeL lay lines) p = freeP lay lines p := by
  rw [freeL, lx_map (by simpa using hp)]; congr 1; rw [lx_eq (by simpa using hp)]; simp
theorem own_some {α : Type} {f : α → List Value} {m : Nat} {T : TypeId} {w : World} {a : Option Addr} {n c : Nat} {l : List α} (h : Own f m T 0 w (.slice a n c) l) (hl : 0 < l.length) : ∃ g, a = some ⟨g, 0, none⟩ := by
  obtain ⟨_, ⟨hs, hl0⟩ | ⟨g, cap, cur, hs, _⟩⟩ := h
  · omega
  · simp only [Value.slice.injEq] at hs; exact ⟨g, hs.1⟩
section
variable {w0 : World} {Bs : List Nat} {P : Program} {n : Nat} {L : List (Nat × Value)} {H H1 H2 : List En} {u v : Value} {d : Nat} {T ty : TypeId} {pos : String} {af : Array Edge} {gd : Option (Nat × Bool)} {x y : Operand} {o : Oper}
/-- a call that answers a list of the call's own -/
theorem Ef.cS {α : Type} {fn : FuncId} {args : Array Value} {f : α → List Value} {m : Nat} {l : List α} (hc : ∀ w, Mem w0 Bs H w → Calls P fn args w (Ret (fun p : Option Addr × Nat => .slice p.1 l.length p.2) (fun p => [.own f m T (.slice p.1 l.length p.2) l]) w)) (h : Cl P n o L fn args := by exact Cl.q) : Ef w0 Bs P n o L H (.sl f m T l) H :=
  fun g w hw => uponF.mono (fun v w' hm => by obtain ⟨x, hx, hm'⟩ := Mem.rtE hm; exact Mem.slI hx hm') (Ef.c hc h g w hw)
theorem Ef.appT {α : Type} {f : α → List Value} {m bytes : Nat} {t e e2 : TypeId} {l l2 : List α} (het : ElemT P t e m bytes) (hf : ∀ x, (f x).length = m) (hone : ∀ x, ∀ u ∈ f x, u.oneCell' = true) (hbytes : ((l.length + l2.length) + (l.length + l2.length) / 4 + 192) * bytes ≤ 140737488355328)
    (p1 : Pick (.sl f m e l v) H H1) (p2 : Pick (.sl f m e2 l2 u) H1 H2) (hx : ∀ g, evF n (tab L g) x = v := by intro g; simp only [evF_tmp, tab_cons, Nat.reduceLT, Nat.reduceEqDiff, ↓reduceIte]; (try rfl))
    (hy : ∀ g, evF n (tab L g) y = u := by intro g; simp only [evF_tmp, tab_cons, Nat.reduceLT, Nat.reduceEqDiff, ↓reduceIte]; (try rfl)) (hd : d < n := by decide) :
    Ef w0 Bs P n ⟨some d, .call { callee := .builtin .append, args := #[x, y], argTypes := #[t, t] }, ty, pos, af, gd⟩ L H (.sl f m e (l ++ l2)) H2 := fun g w hw => by
  have h1 : Mem w0 Bs (.sl f m e l v :: .sl f m e2 l2 u :: H2) w := (hw.perm p1.perm).perm (p2.perm.cons _)
  obtain ⟨a, c, hv, h2⟩ := h1.slE
  exact Ef.appS (H := .own f m e (.slice a l.length c) l :: .sl f m e2 l2 u :: H2) het hf hone hbytes .here .here (fun g => (hx g).trans hv) hy hd g w h2
end
theorem bstF_lay {t : TD} (hl : 1 ≤ t.lines ∧ t.lines ≤ 8) {o : Option (List Int)} (ho : ∀ l, o = some l → LayV t l) : ∀ k s, s.length + k = t.os.length + t.data.toNat → (∀ a ∈ s, 0 ≤ a ∧ a ≤ 127) → ∀ l, bstF t k s o = some l → LayV t l
  | 0, s, hk, hs, l, h => by
    rw [bstF] at h
    split at h
    · cases h; exact ⟨by omega, hs⟩
    · exact ho l h
  | k + 1, s, hk, hs, l, h => by
    rw [bstF] at h
    have key : ∀ (ps : List Nat) (o' : Option (List Int)), (∀ p ∈ ps, p < 16) → (∀ l, o' = some l → LayV t l) → ∀ l, ps.foldl (fun o p => if 0 ≤ lx (freeL s t.lines) p then bstF t k (s ++ [lx (freeL s t.lines) p]) o else o) o' = some l → LayV t l := by
      intro ps
      induction ps with
      | nil => intro o' _ h1 l hl; exact h1 l hl
      | cons p ps ih =>
        intro o' hp h1 l hl9
        rw [List.foldl_cons] at hl9
        refine ih _ (fun q hq => hp q (by simp [hq])) ?_ l hl9
        intro l2 h2
        split at h2
        · rename_i hv
          have hb := freeP_bd (lay := s) hl (hp p (by simp))
          rw [← freeL_at (lay := s) (lines := t.lines) (hp p (by simp))] at hb
          exact bstF_lay hl h1 k _ (by simp; omega) (fun a ha => by
            rcases List.mem_append.1 ha with ha | ha
            · exact hs a ha
            · obtain rfl : a = _ := by simpa using ha
              omega) l2 h2
        · exact h1 l2 h2
    exact key _ o (fun p hp => by simpa using hp) ho l h
theorem best0_v {w0 : World} {Bs : List Nat} (x : PD) (b bP bB bT : Nat) (hok : x.Ok) (hes : x.es.map (·.l) = openE x.t) (G : List En) (hP : ∀ w, Mem w0 Bs G w → x.At b w) (s : List Int) (o : Option (List Int)) (ab ao c : Nat) (w : World)
    (hm : Mem w0 Bs (bsH b bP bB bT G s ab ao o) w) (hs : LayV x.t s) (ho : ∀ l, o = some l → LayV x.t l) :
    Calls Tryz.prog 66 #[.slice (some ⟨ab, ao, none⟩) s.length c, .pointer (some ⟨bP, 0, none⟩), .pointer (some ⟨bB, 0, none⟩), .pointer (some ⟨bT, 0, none⟩)] w (fun e w' => ∃ u : Unit, e = .returned (.tuple #[]) ∧ Mem w0 Bs (bsH b bP bB bT G s ab ao (if betB x.t s o = true then some s else o)) w') := by
  have hn : x.n = s.length := by rw [hs.1]; rfl
  have HN := hid hn
  have hc24 := hok.n1
  have hd := hok.d1
  have hs40 : s.length ≤ 40 := by have := hs.1; omega
  have hcost : ∀ l, LayV x.t l → 0 ≤ costL x.t l ∧ costL x.t l ≤ 24000000 := fun l hl => by
    rw [← cost_eq hes]
    have := costT_bd (cnt := fun i => (lx x.t.ps i).cnt) (es := fun i => (lx x.es i).l) (lay := l) (m := x.es.length) (fun i hi => hok.cnt _ (lx_mem (by have := hok.e1; omega))) (fun i hi => pathT_bd (fun v hv => (hok.item _ (lx_mem hi) v hv).2.2) ⟨(hok.len _ (lx_mem hi)).1, (hok.len _ (lx_mem hi)).2.1⟩) x.es.length (Nat.le_refl _)
    have h8 := hok.p1
    have h9 := hok.e1
    unfold PD.cost
    omega
  refine go_in0 Tryz.func66 rfl Tryz.ntmps66 hm ?_
  dsimp only [bsH]
  cases o with
  | none =>
    simp only [bestE, betB, if_true]
    refine go ?_
    refine GoL.cv (fun w' hw => items_v x b w' (hP _ (hw.sub (Sub.tl (Sub.tl (Sub.tl (Sub.tl (Sub.refl _))))))) hok) ?_
    rw [HN.out]
    refine go ?_
    refine GoL.c (fun w' hw => clone_v s ab ao c w' (hw.rd pk) (by omega)) (fun q => ?_)
    obtain ⟨q1, q2⟩ := q
    refine GoL.fact (p := ∃ g, q1 = some ⟨g, 0, none⟩) (fun w hw => own_some (hw.own (l := s) pk) (by have := hs.1; omega)) (fun hg => ?_)
    obtain ⟨g, rfl⟩ := hg
    dsimp only [slV, slE]
    refine go ?_
    refine end0 (fun w' hw => ⟨(), rfl, ?_⟩)
    exact Mem.exI (g, 0, q2) (Mem.starI (A := [_, _, _]) (Mem.pureI (hw.own (l := s) pk).cap ((hw.o2r (f := icell) (l := s) .here (fun _ => rfl)).sub (Sub.cons (.there .here) (Sub.cons .here (Sub.refl _))))))
  | some l =>
    have hl := ho l rfl
    have hll : l.length = s.length := by rw [hl.1, hs.1]
    have HL := hid hll
    have c1 := hcost s hs
    have c2 := hcost l hl
    simp only [bestE]
    refine GoC.mx (H' := fun p : {p : Nat × Nat × Nat // l.length ≤ p.2.2} => .cells bB [.slice (some ⟨p.1.1, p.1.2.1, none⟩) l.length p.1.2.2] :: .rd icell 1 (some ⟨p.1.1, p.1.2.1, none⟩) l :: .rd icell 1 (some ⟨ab, ao, none⟩) s :: .cells bP [.pointer (some ⟨b, 0, none⟩)] :: .cells bT [.func (.func 66) #[] #[.pointer (some ⟨bP, 0, none⟩), .pointer (some ⟨bB, 0, none⟩), .pointer (some ⟨bT, 0, none⟩)]] :: G) (fun w hw => let ⟨p, hp⟩ := hw.exs; ⟨⟨p, hp.flat.pures.1⟩, hp.flat.pures.2⟩) (fun p => ?_)
    obtain ⟨⟨gb, go_, cb⟩, hcb⟩ := p
    dsimp only
    have hgP : ∀ F w, Mem w0 Bs ((.cells bB [.slice (some ⟨gb, go_, none⟩) l.length cb] :: .rd icell 1 (some ⟨gb, go_, none⟩) l :: .rd icell 1 (some ⟨ab, ao, none⟩) s :: .cells bP [.pointer (some ⟨b, 0, none⟩)] :: .cells bT [.func (.func 66) #[] #[.pointer (some ⟨bP, 0, none⟩), .pointer (some ⟨bB, 0, none⟩), .pointer (some ⟨bT, 0, none⟩)]] :: G) ++ F) w → x.At b w := fun F w hw => hP _ (hw.sub (Sub.tl (Sub.tl (Sub.tl (Sub.tl (Sub.tl (Sub.appL G F)))))))
    clear hll
    refine go ?_
    refine GoL.cv (fun w' hw => items_v x b w' (hP _ (hw.sub (Sub.tl (Sub.tl (Sub.tl (Sub.tl (Sub.tl (Sub.refl _)))))))) hok) ?_
    rw [HN.out]
    refine go ?_
    refine D.cv (fun F w' hw => cost_v x b s _ c w' (hgP F _ hw) hok (hw.rd (l := s) pk) HN.out.symm hs.2) ?_
    refine go ?_
    refine D.cv (fun F w' hw => cost_v x b l _ cb w' (hgP F _ hw) hok (hw.rd (l := l) pk) (HL.out.trans HN.out.symm) hl.2) ?_
    rw [cost_eq hes, cost_eq hes]
    refine go ?_
    refine D.cv (fun F w' hw => cmpLs_v s l _ _ c cb w' (hw.rd (l := s) pk) (hw.rd (l := l) pk) (by omega) (by have := HL.out; omega)) ?_
    refine go ?_
    refine GoL.sl (Ef.lit (f := icell) (m := 1) (e := 3) [costL x.t s - costL x.t l, cmpLs s l] (fun _ => rfl) rfl) (fun a9 c9 => ?_)
    refine go ?_
    refine GoL.cv (v := .int .i64 (orL [costL x.t s - costL x.t l, cmpLs s l])) (fun w' hw => (cmpOr_s a9 c9 [costL x.t s - costL x.t l, cmpLs s l] w' (hw.ownRd (f := icell) .here) (by simp)).mono fun e w' h => ⟨h.1, h.2 ▸ Below.refl _ _⟩) ?_
    refine go ?_
    refine go_if (fun h => ?_) (fun h => ?_)
    · have hB : betB x.t s (some l) = true := by simpa [betB] using h
      refine go ?_
      refine GoL.c (fun w' hw => clone_v s ab ao c w' (hw.rd (l := s) pk) (by omega)) (fun q => ?_)
      obtain ⟨q1, q2⟩ := q
      refine GoL.fact (p := ∃ g, q1 = some ⟨g, 0, none⟩) (fun w hw => own_some (hw.own (l := s) pk) (by have := hs.1; omega)) (fun hg => ?_)
      obtain ⟨g, rfl⟩ := hg
      dsimp only [slV, slE]
      refine go ?_
      refine end0 (fun w' hw => ⟨(), rfl, ?_⟩)
      rw [if_pos hB]
      exact Mem.exI (g, 0, q2) (Mem.starI (A := [_, _, _]) (Mem.pureI (hw.own (l := s) pk).cap ((hw.o2r (f := icell) (l := s) .here (fun _ => rfl)).sub (Sub.cons (.there (.there .here)) (Sub.cons .here (Sub.tl (Sub.tl (Sub.refl _))))))))
    · have hB : ¬ betB x.t s (some l) = true := by simpa [betB] using h
      refine go ?_
      refine end0 (fun w' hw => ⟨(), rfl, ?_⟩)
      rw [if_neg hB]
      exact Mem.exI (gb, go_, cb) (Mem.starI (A := [_, _, _]) (Mem.pureI hcb (hw.sub (Sub.tl (Sub.refl _)))))
theorem best_v {w0 : World} {Bs : List Nat} (x : PD) (b bP bB bT : Nat) (hok : x.Ok) (hes : x.es.map (·.l) = openE x.t) : ∀ k (G : List En), (∀ w, Mem w0 Bs G w → x.At b w) → ∀ (s : List Int) (o : Option (List Int)) (ab ao c : Nat) (w : World), s.length + k = x.n → 1 ≤ s.length →
    Mem w0 Bs (bsH b bP bB bT G s ab ao o) w → (∀ a ∈ s, 0 ≤ a ∧ a ≤ 127) → (∀ l, o = some l → LayV x.t l) →
    Calls Tryz.prog 66 #[.slice (some ⟨ab, ao, none⟩) s.length c, .pointer (some ⟨bP, 0, none⟩), .pointer (some ⟨bB, 0, none⟩), .pointer (some ⟨bT, 0, none⟩)] w (fun e w' => ∃ u : Unit, e = .returned (.tuple #[]) ∧ Mem w0 Bs (bsH b bP bB bT G s ab ao (bstF x.t k s o)) w')
  | 0, G, hP, s, o, ab, ao, c, w, hk, h1, hm, hs, ho => best0_v x b bP bB bT hok hes G hP s o ab ao c w hm ⟨by rw [Nat.add_zero] at hk; exact hk, hs⟩ ho
  | k + 1, G, hP, s, o, ab, ao, c, w, hk, h1, hm, hs, ho => by
    have ih := best_v (w0 := w0) (Bs := Bs) x b bP bB bT hok hes k
    have hl1 := hok.l1
    have hn24 := hok.n1
    have hd16 := hok.d1
    have HK := hid hk
    have hs40 : s.length ≤ 40 := by have : x.n = x.t.os.length + x.t.data.toNat := rfl; omega
    have hns : ¬ (s.length : Int) = (x.n : Int) := by omega
    clear hk
    refine go_in0 Tryz.func66 rfl Tryz.ntmps66 hm ?_
    dsimp only [bsH]
    refine go ?_
    refine GoL.cv (fun w' hw => items_v x b w' (hP _ (hw.sub (Sub.tl (Sub.tl (Sub.tl (Sub.tl (Sub.refl _))))))) hok) ?_
    refine go ?_
    refine go_if (fun h => ?_) (fun h => ?_)
    · exact absurd (by simpa using h) hns
    clear h
    refine go ?_
    refine GoL.cv (fun w' hw => free_v x b s _ c w' (hP _ (hw.sub (Sub.tl (Sub.tl (Sub.tl (Sub.tl (Sub.refl _))))))) hok (hw.rd (l := s) pk) (by omega) (fun a ha => (hs a ha).2)) ?_
    refine go ?_
    have hn16 := freeL_len s x.t.lines
    refine go_loop (X := Nat × Option (List Int)) (fun q => q.1 ≤ 16 ∧ q.2 = ((List.range q.1).foldl (fun o p => if 0 ≤ lx (freeL s x.t.lines) p then bstF x.t k (s ++ [lx (freeL s x.t.lines) p]) o else o) o) ∧ ∀ l, q.2 = some l → LayV x.t l) (fun q => 16 - q.1) (fun q => [(34, .int .i64 q.1)])
      (fun q => bsH b bP bB bT G s ab ao q.2) (0, o) [0, 1, 2, 3, 33] ⟨Nat.zero_le _, rfl, ho⟩ (by simp [AgreeL, At]) (Sub.refl _) (fun q hq => ?_)
    obtain ⟨i, o'⟩ := q
    dsimp only at hq ⊢
    obtain ⟨hi, hq, ho'⟩ := hq
    dsimp only [bsH]
    refine go ?_
    refine go_if (fun h => ?_) (fun h => ?_)
    rotate_left
    · obtain rfl : i = 16 := by omega
      refine go ?_
      refine end0 (fun w' hw => ⟨(), rfl, ?_⟩)
      rw [bstF, ← hq]; exact hw
    have hi16 : i < 16 := by omega
    have hfb := freeP_bd (lay := s) hl1 hi16
    have hfa := freeL_at (lay := s) (lines := x.t.lines) hi16
    have HF := hid hfa
    rw [← hfa] at hfb
    clear hfa
    refine go ?_
    refine GoL.q ⟨_, Ex.ia (i := i) hn16 hi16 rfl, ?_⟩
    generalize hv : lx (freeL s x.t.lines) i = v at *
    have hstep : (List.range (i + 1)).foldl (fun o p => if 0 ≤ lx (freeL s x.t.lines) p then bstF x.t k (s ++ [lx (freeL s x.t.lines) p]) o else o) o = if 0 ≤ v then bstF x.t k (s ++ [v]) o' else o' := by
      rw [List.range_succ, List.foldl_append, ← hq]; simp [hv]
    have HS := hid hstep
    clear hstep hq hv HF
    refine go ?_
    refine go_if (fun h2 => ?_) (fun h2 => ?_)
    · refine go ?_
      refine D.e0 [] [] (fun X F => Ef.cS (f := icell) (m := 1) (T := 3) (l := s) (fun w' hw => clone_v s ab ao c w' (hw.rd (l := s) pk) (by omega))) ?_
      refine go ?_
      refine D.e0 [] [] (fun X F => Ef.lit (f := icell) (m := 1) (e := 3) [v] (fun _ => rfl) rfl) ?_
      refine go ?_
      refine D.e0 [] [2, 4] (fun X F => Ef.appT (f := icell) (l := s) (l2 := [v]) elI (fun _ => rfl) icell_one (by simp only [List.length_cons, List.length_nil]; omega) .here .here) ?_
      refine D.nil [(5, fun X => .sl icell 1 3 (s ++ [v]) (X 5))] (fun X => GoL.slo fun a5 c5 hX => ?_) (hchk := (by show chkDD _ _ 0 [5] = true; decide +kernel))
      rw [hX]
      have hsv : (s ++ [v]).length = s.length + 1 := by simp
      refine GoL.fact (p := ∃ g, a5 = some ⟨g, 0, none⟩) (fun w hw => own_some (hw.own (l := s ++ [v]) pk) (by omega)) (fun hg => ?_)
      obtain ⟨g, rfl⟩ := hg
      refine GoL.mem (H' := bsH b bP bB bT (.rd icell 1 (some ⟨ab, ao, none⟩) s :: G) (s ++ [v]) g 0 o') (fun w hw => ((hw.o2r (f := icell) (l := s ++ [v]) .here (fun _ => rfl)).sub (Sub.cons (.there .here) (Sub.cons .here (Sub.cons (.there .here) (Sub.cons (.there .here) (Sub.refl _))))))) ?_
      refine GoL.cm (fun w' hw => ih (.rd icell 1 (some ⟨ab, ao, none⟩) s :: G) (fun w hw => hP w (hw.sub (Sub.tl (Sub.refl _)))) (s ++ [v]) o' g 0 c5 w' (by have := HK.out; omega) (by omega) hw (fun a ha => ?_) ho') (fun _ => ?_)
      · rcases List.mem_append.1 ha with ha | ha
        · exact hs a ha
        · obtain rfl : a = v := by simpa using ha
          omega
      refine go ?_
      refine GoX.mem (H' := bsH b bP bB bT G s ab ao (bstF x.t k (s ++ [v]) o')) (fun w hw => hw.sub (Sub.cons .here (Sub.cons (.there (.there (.there .here))) (Sub.cons (.there .here) (Sub.cons (.there .here) (Sub.tl (Sub.refl _))))))) ?_
      refine go_again (i + 1, bstF x.t k (s ++ [v]) o') ⟨by omega, by rw [HS.out, if_pos h2], ?_⟩ (by simp only; omega) (by simp [AgreeL, At]) (Sub.refl _)
      intro l hl
      exact bstF_lay hl1 (fun l hl => ho' l hl) k (s ++ [v]) (by have := HK.out; rw [hsv]; show s.length + 1 + k = x.t.os.length + x.t.data.toNat; unfold PD.n at this; omega) (fun a ha => by
        rcases List.mem_append.1 ha with ha | ha
        · exact hs a ha
        · obtain rfl : a = v := by simpa using ha
          omega) l hl
    · refine go ?_
      refine go_again (i + 1, o') ⟨by omega, by rw [HS.out, if_neg (by omega)], ho'⟩ (by simp only; omega) (by simp [AgreeL, At]) (Sub.refl _)
end

section
set_option linter.all false
set_option pp.maxSteps 100000
set_option maxRecDepth 100000
set_option maxHeartbeats 4000000
open Go.RowKit

def bestO (t : TD) : Option (List Int) := bstF t (t.os.length + t.data.toNat - 1) [0] none
def bestL (t : TD) : List Int := (bestO t).getD []
/-- the error of Best -/
def bestEr (t : TD) : Int := if ¬ (chkL t).2.2 = 0 then (chkL t).2.2 else if 4 < (t.os.length : Int) + t.data then 3 else 0
theorem Best_bad (t : TD) (w : World) (hn : t.Len) (hT : t.At w) (he : ¬ bestEr t = 0) :
    Calls Tryz.prog 24 #[.agg #[.slice t.ao t.os.length t.co, .int .i64 t.data, .int .i64 t.lines, .slice t.ap t.ps.length t.cp]] w (fun e' w' => e' = .returned (.tuple #[.slice none 0 0, .int .i64 (bestEr t)]) ∧ Below w.heap.size w w') := by
  obtain ⟨⟨p, i, e⟩, hr⟩ : ∃ q : Int × Int × Int, q = chkL t := ⟨_, rfl⟩
  refine go_in Tryz.func24 rfl Tryz.ntmps24 [] [] (Mem.start _) ?_
  refine go ?_
  refine GoL.a (fun b1 => ?_)
  refine go ?_
  by_cases h0 : e = 0
  · subst h0
    have hE : bestEr t = if 4 < (t.os.length : Int) + t.data then 3 else 0 := by rw [bestEr, ← hr, if_neg (by simp)]
    have h4 : 4 < (t.os.length : Int) + t.data := Classical.byContradiction fun h => he (by rw [hE, if_neg h])
    rw [if_pos h4] at hE
    have HE := hid hE
    clear hE he
    refine GoL.c (fun w' hw => open_ok t p i w' hn (hT.old hw) hr.symm) (fun x => ?_)
    obtain ⟨x, b⟩ := x
    refine GoL.pure (fun hx => ?_)
    dsimp only at hx ⊢
    obtain ⟨rfl, hes, hcap⟩ := hx
    have hok := plan_ok (chkL_ok hr.symm) hes hcap
    have HN := hid hok.nn
    refine go ?_
    refine GoL.a (fun b4 => ?_)
    refine go ?_
    refine GoL.cv (fun w' hw => items_v x b w' (hw.plan pk (hT.old hw)) hok) ?_
    refine go ?_
    refine go_if (fun h => ?_) (fun h => ?_)
    rotate_left
    · exact absurd h (by have := HN.out; omega)
    refine go ?_
    exact ev2 ⟨rfl, by rw [HE.out]⟩
  · have HE := hid (show bestEr t = e by rw [bestEr, ← hr, if_pos h0])
    clear he
    refine GoL.cv (fun w' hw => open_bad t p i e w' hn (hT.old hw) hr.symm h0) ?_
    refine go ?_
    refine GoL.a (fun b4 => ?_)
    refine go ?_
    refine go_if (fun h => ?_) (fun h => ?_)
    rotate_left
    · exact absurd h h0
    refine go ?_
    exact ev2 ⟨rfl, by rw [HE.out]⟩
theorem bestEr_ok {t : TD} (h : bestEr t = 0) : t.Ok ∧ (t.os.length : Int) + t.data ≤ 4 ∧ ∃ p i, chkL t = (p, i, 0) := by
  unfold bestEr at h
  split at h
  · rename_i h1; exact absurd h h1
  rename_i h1
  split at h
  · cases h
  have h2 : chkL t = ((chkL t).1, (chkL t).2.1, 0) := by
    have : (chkL t).2.2 = 0 := Classical.byContradiction h1
    rw [← this]
  exact ⟨chkL_ok h2, by omega, _, _, h2⟩
theorem Best_okc (t : TD) (w : World) (hn : t.Len) (hT : t.At w) (he : bestEr t = 0) :
    Calls Tryz.prog 24 #[.agg #[.slice t.ao t.os.length t.co, .int .i64 t.data, .int .i64 t.lines, .slice t.ap t.ps.length t.cp]] w (Ret (fun q : Option Addr × Nat => .tuple #[.slice q.1 (bestL t).length q.2, .int .i64 0]) (fun q => [.pure ((bestL t).length ≤ q.2), .rd icell 1 q.1 (bestL t)]) w) := by
  obtain ⟨htok, hit, p, i, hr⟩ := bestEr_ok he
  refine go_in Tryz.func24 rfl Tryz.ntmps24 [] [] (Mem.start _) ?_
  refine go ?_
  refine GoL.a (fun b1 => ?_)
  refine go ?_
  refine GoL.c (fun w' hw => open_ok t p i w' hn (hT.old hw) hr) (fun x => ?_)
  obtain ⟨x, b⟩ := x
  refine GoL.pure (fun hx => ?_)
  dsimp only at hx ⊢
  obtain ⟨rfl, hes, hcap⟩ := hx
  have hok := plan_ok htok hes hcap
  have HN := hid hok.nn
  have hn1 := hok.n1
  have hd1 := hok.d1
  have h01 : ∀ a ∈ [(0 : Int)], 0 ≤ a ∧ a ≤ 127 := fun a ha => by
    obtain rfl : a = 0 := by simpa using ha
    decide
  refine go ?_
  refine GoL.a (fun bP => ?_)
  refine go ?_
  refine GoL.cv (fun w' hw => items_v x b w' (hw.plan pk (hT.old hw)) hok) ?_
  refine go ?_
  refine go_if (fun h => ?_) (fun h => ?_)
  · exact absurd h (by have := HN.out; omega)
  refine go ?_
  refine GoL.a (fun bB => ?_)
  refine go ?_
  refine GoL.a (fun bT => ?_)
  refine go ?_
  refine GoL.sl (Ef.lit (f := icell) (m := 1) (e := 3) [0] (fun _ => rfl) rfl) (fun a0 c0 => ?_)
  refine GoL.fact (p := ∃ g, a0 = some ⟨g, 0, none⟩) (fun w hw => own_some (hw.own (l := [(0 : Int)]) pk) (by decide)) (fun hg => ?_)
  obtain ⟨g, rfl⟩ := hg
  refine GoL.mem (H' := bsH b bP bB bT [.plan x b, .cells b1 [.slice x.t.ao x.t.os.length x.t.co, .int .i64 x.t.data, .int .i64 x.t.lines, .slice x.t.ap x.t.ps.length x.t.cp]] [0] g 0 none) (fun w hw => ((hw.o2r (f := icell) (l := [(0 : Int)]) .here (fun _ => rfl)).sub (Sub.cons (.there (.there .here)) (Sub.cons .here (Sub.cons (.there .here) (Sub.cons .here (Sub.refl _))))))) ?_
  refine go ?_
  refine GoL.cm (fun w' hw => best_v x b bP bB bT hok hes (x.n - 1) [.plan x b, .cells b1 [.slice x.t.ao x.t.os.length x.t.co, .int .i64 x.t.data, .int .i64 x.t.lines, .slice x.t.ap x.t.ps.length x.t.cp]] (fun w hw => hw.plan pk (hT.old hw)) [0] none g 0 c0 w' (by simp only [List.length_cons, List.length_nil]; have := HN.out; omega) (by simp) hw h01 (fun l h => by cases h)) (fun _ => ?_)
  refine go ?_
  have hO : bstF x.t (x.n - 1) [0] none = bestO x.t := rfl
  rw [hO]
  cases hB : bestO x.t with
  | none =>
    have hL : bestL x.t = [] := by rw [bestL, hB]; rfl
    simp only [bestE, bsH]
    refine go ?_
    refine end2 (fun w' hw => ⟨(none, 0), by rw [hL], ?_⟩)
    rw [hL]
    exact ⟨hw.below, fun _ => False, fun _ h => h.elim, Nat.le_refl _, fun _ => False, fun _ h => h.elim, ⟨fun _ h => absurd rfl h, .inl rfl⟩, trivial⟩
  | some l =>
    have hL : bestL x.t = l := by rw [bestL, hB]; rfl
    simp only [bestE, bsH]
    refine GoL.mx (H' := fun p : {p : Nat × Nat × Nat // l.length ≤ p.2.2} => .cells bB [.slice (some ⟨p.1.1, p.1.2.1, none⟩) l.length p.1.2.2] :: .rd icell 1 (some ⟨p.1.1, p.1.2.1, none⟩) l :: _) (fun w hw => let ⟨p, hp⟩ := hw.exs; ⟨⟨p, hp.flat.pures.1⟩, hp.flat.pures.2⟩) (fun p => ?_)
    obtain ⟨p, hcp⟩ := p
    dsimp only
    refine go ?_
    refine end2 (fun w' hw => ⟨(some ⟨p.1, p.2.1, none⟩, p.2.2), by rw [hL], ?_⟩)
    rw [hL]; exact Mem.done (Mem.pureI hcp hw) sb
theorem Best_ok (t : TD) (w : World) (hn : t.Len) (hT : t.At w) (he : bestEr t = 0) :
    Calls Tryz.prog 24 #[.agg #[.slice t.ao t.os.length t.co, .int .i64 t.data, .int .i64 t.lines, .slice t.ap t.ps.length t.cp]] w (Ret (fun q : Option Addr × Nat => .tuple #[.slice q.1 (bestL t).length q.2, .int .i64 0]) (fun q => [.rd icell 1 q.1 (bestL t)]) w) :=
  (Best_okc t w hn hT he).mono fun e w' ⟨q, h1, h2, S, hS, _, h3⟩ => ⟨q, h1, h2, Sep.mono (H := [En.rd icell 1 q.1 (bestL t)]) h3 (fun b hb => hb.1)⟩
end

section
set_option linter.all false
set_option pp.maxSteps 100000
set_option maxRecDepth 100000
set_option maxHeartbeats 4000000
open Go.RowKit

theorem maskN (a : Nat) (ha : a ≤ 1000000) : bits .and .u64 (a : Int) 4294967295 = (a : Int) := by
  have h := bits_and_u64_nat a 4294967295 (by omega) (by omega)
  have e : a &&& 4294967295 = a := by rw [Nat.and_two_pow_sub_one_eq_mod a 32]; omega
  rw [e] at h
  exact h
theorem mul64_v (n : Nat) (hn : n ≤ 1000) (w : World) : Calls Tryz.prog 152 #[.int .u64 1, .int .u64 n] w (fun e w' => e = .returned (.tuple #[.int .u64 0, .int .u64 n]) ∧ Below w.heap.size w w') := by
  have m1 : bits .and .u64 1 4294967295 = 1 := maskN 1 (by omega)
  have m2 := maskN n (by omega)
  have d1 : (n : Int) / 4294967296 = 0 := by omega
  have k1 : IntKind.u64.wrap (n : Int) = n := by rw [IntKind.wrap_u64]; omega
  refine go_in Tryz.func152 rfl Tryz.ntmps152 [] [] (Mem.start _) ?_
  refine go ?_
  refine ev2 ⟨?_, rfl⟩
  rw [show bits .and .u64 0 4294967295 = 0 from maskN 0 (by omega)]
  rfl
theorem go_cf {w0 : World} {Bs : List Nat} {P : Program} {x y : Code} {n : Nat} {ds : List Deferred} {L : List (Nat × Value)} {H : List En} {Q : Exit → Act → World → Prop} (h : GoC w0 Bs P y n ds L H Q) : GoC w0 Bs P (.cond (.const (.bool false)) x y) n ds L H Q :=
  .mk fun g w hw => cond_F false (by rw [evF_const]) (h.go g w hw)
theorem mul_v (n : Nat) (hn : n ≤ 1000) (w : World) : Calls Tryz.prog 126 #[.int .u64 1, .int .u64 n] w (fun e w' => e = .returned (.tuple #[.int .u64 0, .int .u64 n]) ∧ Below w.heap.size w w') := by
  refine go_in Tryz.func126 rfl Tryz.ntmps126 [] [] (Mem.start _) ?_
  refine go ?_
  refine go_cf ?_
  refine go ?_
  refine GoL.cv (fun w' hw => mul64_v n hn w') ?_
  refine go ?_
  exact ev2 ⟨rfl, rfl⟩
theorem setLs_ic (l : List Int) (k : Nat) (v : List Int) : setLs (ic l) k (ic v) = ic (l.take k ++ v ++ l.drop (k + v.length)) ∨ l.length < k + v.length := by
  rcases Nat.lt_or_ge l.length (k + v.length) with h | h
  · exact .inr h
  · refine .inl ?_
    induction v generalizing l k with
    | nil => simp [ic, setLs]
    | cons x v ih =>
      simp only [List.length_cons] at h
      rw [show ic (x :: v) = .int .i64 x :: ic v from rfl, setLs, ic_set]
      have h1 := ih (l.set k x) (k + 1) (by simp; omega)
      rw [h1]
      congr 1
      have hk : k < l.length := by omega
      rw [List.take_succ, List.getElem?_set_self hk, List.take_set_of_le (Nat.le_refl _), List.drop_set_of_lt (by omega)]
      simp [Nat.add_comm, Nat.add_left_comm]
theorem elI' : ∀ i, Tryz.prog.info? 3 = some i → i.zero = some (.int .i64 0) := by
  intro i hi
  have h : (Tryz.prog.info? 3).map (·.zero) = some (some (.int .i64 0)) := by kernel_rfl
  rw [hi] at h; simpa using h
/-- the state of Repeat: the first k are there -/
def repS (v : Int) (n k : Nat) : List Int := List.replicate k v ++ List.replicate (n - k) 0
theorem repS_len {v : Int} {n k : Nat} (h : k ≤ n) : (repS v n k).length = n := by simp [repS]; omega
theorem repS_copy {v : Int} {n k m : Nat} (hk : k + m ≤ n) : (repS v n k).take k ++ List.replicate m v ++ (repS v n k).drop (k + m) = repS v n (k + m) := by
  unfold repS
  rw [List.take_append_of_le_length (by simp), List.take_of_length_le (by simp), List.drop_append, List.drop_eq_nil_of_le (by simp)]
  simp [List.drop_replicate]
  omega
theorem repeat_v (v : Int) (n : Nat) (ab ac : Nat) (w : World) (hl : Cells w ab [.int .i64 v]) (hn : 1 ≤ n ∧ n ≤ 1000) :
    Calls Tryz.prog 103 #[.slice (some ⟨ab, 0, none⟩) 1 ac, .int .i64 n] w (Ret (fun b : Nat => .slice (some ⟨b, 0, none⟩) n n) (fun b => [.cells b (ic (List.replicate n v))]) w) := by
  have k2 : IntKind.u64.wrap (n : Int) = n := by rw [IntKind.wrap_u64]; omega
  refine go_in Tryz.func103 rfl Tryz.ntmps103 [] [] (Mem.start _) ?_
  refine go ?_
  refine GoL.cv (fun w' hw => mul_v n hn.2 w') ?_
  refine go ?_
  refine go_if (fun h => ?_) (fun h => ?_)
  · exact absurd h (by omega)
  refine go ?_
  refine GoL.mks (k := n) (f := fun x => [Value.int .i64 x]) rfl elI elI' (by omega) (fun b => ?_)
  refine go ?_
  have e0 : setLs (ic (List.replicate n 0)) 0 [Value.int .i64 v] = ic (repS v n 1) := by
    have h1 := setLs_ic (List.replicate n 0) 0 [v]
    rcases h1 with h1 | h1
    · have h2 := repS_copy (v := v) (n := n) (k := 0) (m := 1) (by omega)
      have h3 : repS v n 0 = List.replicate n 0 := by simp [repS]
      rw [h3] at h2
      simp only [Nat.zero_add, List.length_cons, List.length_nil] at h1 h2
      rw [show [Value.int .i64 v] = ic [v] from rfl, h1]
      exact congrArg ic h2
    · simp at h1; omega
  have one1 : ∀ l : List Int, ∀ u ∈ ic l, u.oneCell' = true := fun l u hu => by
    obtain ⟨z, _, rfl⟩ := List.mem_map.1 hu; rfl
  refine GoL.cp (b := b) (o := 0) (dl := n) (dc := n) (sl := 1) (sc := ac) (a := ⟨ab, 0, none⟩) (cs := [.int .i64 v]) rp Tryz.underlying26 (by kernel_rfl) (by simp [Nat.min_def]; omega) e0 (by simp; omega) (one1 [v]) (fun w hw j u hj => ?_) ?_
  · have := (hw.oldC hl).2.1 j u hj
    rw [add_none, Nat.zero_add]; exact this
  refine go ?_
  refine go_loop (X := Nat) (fun k => 1 ≤ k ∧ k ≤ n) (fun k => n - k) (fun k => [(8, .int .i64 k)]) (fun k => [.cells b (ic (repS v n k))]) 1 [7] ⟨Nat.le_refl _, hn.1⟩ (by simp [AgreeL, At]) sb (fun k hk => ?_)
  have hlen := repS_len (v := v) hk.2
  refine go ?_
  refine go_if (fun h => ?_) (fun h => ?_)
  rotate_left
  · obtain rfl : k = n := by omega
    refine go ?_
    refine end1 (fun w' hw => ⟨b, rfl, ?_⟩)
    have e : repS v k k = List.replicate k v := by simp [repS]
    rw [e] at hw; exact hw.done sb
  have hk2 : k < n := by omega
  have hm : k + min k (n - k) ≤ n := by omega
  have hcop : setLs (ic (repS v n k)) k (ic (List.replicate (min k (n - k)) v)) = ic (repS v n (k + min k (n - k))) := by
    rcases setLs_ic (repS v n k) k (List.replicate (min k (n - k)) v) with h1 | h1
    · rw [h1]
      have h2 := repS_copy (v := v) hm
      rw [show (List.replicate (min k (n - k)) v).length = min k (n - k) by simp]
      exact congrArg ic h2
    · rw [hlen] at h1; simp at h1; omega
  refine go_skip ?_
  refine xt_n ?_
  refine go_blk ?_
  refine go_drw [.cells b (ic (repS v n k))] [] ?_
  refine go ?_
  refine D.e0 [] [10] (fun X F => Ef.cp (b := b) (o := k) (dl := n - k) (dc := n - k) (sl := k) (sc := n) (a := ⟨b, 0, none⟩) (cs := ic (List.replicate (min k (n - k)) v)) .here Tryz.underlying26 (by kernel_rfl) (by simp [Nat.min_def]) hcop (by simp [hlen]; omega) (one1 _) (fun w hw j u hj => ?_)
    (hx := by intro g; simp only [evF_tmp, tab_cons, Nat.reduceLT, Nat.reduceEqDiff, ↓reduceIte]; rw [if_neg (by omega)])) ?_
  · have hc := hw.cells .here
    rw [add_none, Nat.zero_add]
    refine hc.2.1 j u ?_
    have hj2 : j < min k (n - k) := by
      have := (List.getElem?_eq_some_iff.1 hj).1; simpa using this
    rw [← hj]
    unfold ic repS
    rw [List.map_append, List.getElem?_append_left (by simp; omega), List.map_replicate, List.map_replicate, List.getElem?_replicate, List.getElem?_replicate, if_pos (by omega), if_pos hj2]
  refine D.qu [7] ⟨.int .i64 ((k : Int) + ((min k (n - k) : Nat) : Int)), fun X F g w hw => ?_, ?_⟩
  · have hX : X 7 = .int .i64 ((min k (n - k) : Nat) : Int) := by
      have := (Mem.flat (e := [.pure (X 7 = .int .i64 ((ic (List.replicate (min k (n - k)) v)).length : Int)), .cells b (ic (repS v n (k + min k (n - k))))]) hw).pures.1
      simpa using this
    have hX2 : X (0 + 1 + 1 + 1 + 1 + 1 + 1 + 1) = .int .i64 ((min k (n - k) : Nat) : Int) := hX
    rw [hX2]
    exact (show Ex _ _ _ _ _ _ _ _ from Ex.q) g _ hw
  refine D.nil [(7, fun X => .star [.pure (X 7 = .int .i64 ((ic (List.replicate (min k (n - k)) v)).length : Int)), .cells b (ic (repS v n (k + min k (n - k))))])] (fun X => GoL.star (GoL.pure fun hX => ?_)) (hchk := (by show chkDD _ _ 1 [7] = true; decide +kernel))
  refine go ?_
  refine go_again (k + min k (n - k)) ⟨by omega, hm⟩ (by omega) (by simp [AgreeL, At]) sb
end

section
set_option linter.all false
/-- x into a list in order whose last one stands first -/
def insRv (lt : Int → Int → Bool) (x : Int) : List Int → List Int
  | [] => [x]
  | y :: r => if lt x y = true then y :: insRv lt x r else x :: y :: r
def stRv (lt : Int → Int → Bool) (l : List Int) : List Int := l.foldl (fun r x => insRv lt x r) []
def stS (lt : Int → Int → Bool) (l : List Int) : List Int := (stRv lt l).reverse
variable {lt : Int → Int → Bool}
theorem insRv_len (x : Int) : ∀ r, (insRv lt x r).length = r.length + 1
  | [] => rfl
  | y :: r => by unfold insRv; split <;> simp [insRv_len x r]
theorem insRv_at {x : Int} : ∀ (r : List Int) (s : Nat), s ≤ r.length → (∀ t, t < s → lt x (lx r t) = true) → (s = r.length ∨ lt x (lx r s) = false) → insRv lt x r = r.take s ++ x :: r.drop s
  | [], s, hs, _, _ => by
    obtain rfl : s = 0 := by simpa using hs
    rfl
  | y :: r, 0, _, _, h => by
    rcases h with h | h
    · simp at h
    · have h' : lt x y = false := h
      simp [insRv, h']
  | y :: r, s + 1, hs, ht, h => by
    have h0 : lt x y = true := ht 0 (by omega)
    simp only [insRv, h0, if_true, List.take_succ_cons, List.drop_succ_cons, List.cons_append]
    rw [insRv_at r s (by simpa using hs) (fun t h1 => ht (t + 1) (by omega)) (by
      rcases h with h | h
      · exact .inl (by simpa using h)
      · exact .inr h)]
theorem stRv_snoc (l : List Int) (x : Int) : stRv lt (l ++ [x]) = insRv lt x (stRv lt l) := by simp [stRv, List.foldl_append]
theorem stRv_len (l : List Int) : (stRv lt l).length = l.length := by
  have h : ∀ (l r : List Int), (l.foldl (fun r x => insRv lt x r) r).length = r.length + l.length := by
    intro l
    induction l with
    | nil => intro r; rfl
    | cons x l ih => intro r; rw [List.foldl_cons, ih, insRv_len, List.length_cons]; omega
  simpa [stRv] using h l []
theorem insRv_mem {x y : Int} : ∀ {r}, y ∈ insRv lt x r ↔ y = x ∨ y ∈ r
  | [] => by simp [insRv]
  | z :: r => by
    unfold insRv; split
    · rw [List.mem_cons, insRv_mem, List.mem_cons]; constructor <;> (intro h; rcases h with h | h | h <;> simp [h])
    · simp
theorem stS_mem {y : Int} (l : List Int) : y ∈ stS lt l ↔ y ∈ l := by
  unfold stS
  rw [List.mem_reverse]
  have h : ∀ (l r : List Int), y ∈ l.foldl (fun r x => insRv lt x r) r ↔ y ∈ r ∨ y ∈ l := by
    intro l
    induction l with
    | nil => intro r; simp
    | cons x l ih =>
      intro r
      rw [List.foldl_cons, ih, insRv_mem, List.mem_cons]
      constructor
      · rintro ((h | h) | h) <;> simp [h]
      · rintro (h | h | h) <;> simp [h]
  simpa [stRv] using h l []
theorem stS_len (l : List Int) : (stS lt l).length = l.length := by simp [stS, stRv_len]
/-- the array while x, with s of those ahead of it behind it, goes down -/
def insD (R : List Int) (x : Int) (s : Nat) (rest : List Int) : List Int := (R.drop s).reverse ++ x :: ((R.take s).reverse ++ rest)
theorem insD_len (R : List Int) (x : Int) (s : Nat) (rest : List Int) : (insD R x s rest).length = R.length + 1 + rest.length := by
  simp [insD]; omega
theorem lx_appr {l m : List Int} {i : Nat} (h : l.length ≤ i) : lx (l ++ m) i = lx m (i - l.length) := by
  simp [lx, List.getD_eq_getElem?_getD, List.getElem?_append_right h]
theorem insD_x {R : List Int} {x : Int} {s : Nat} {rest : List Int} (hs : s ≤ R.length) : lx (insD R x s rest) (R.length - s) = x := by
  unfold insD
  rw [lx_appr (by simp)]
  simp [lx]
theorem lx_rev {l : List Int} {i : Nat} (h : i < l.length) : lx l.reverse i = lx l (l.length - 1 - i) := by
  rw [lx_eq (by simpa using h), lx_eq (by omega), List.getElem_reverse]
theorem insD_y {R : List Int} {x : Int} {s : Nat} {rest : List Int} (hs : s < R.length) : lx (insD R x s rest) (R.length - s - 1) = lx R s := by
  unfold insD
  rw [lx_app_l (by simp; omega), lx_rev (by simp; omega), lx_drop]
  congr 1; rw [List.length_drop]; omega
theorem insD_swap {R : List Int} {x : Int} {s : Nat} {rest : List Int} (hs : s < R.length) : ((insD R x s rest).set (R.length - s) (lx R s)).set (R.length - s - 1) x = insD R x (s + 1) rest := by
  have e1 : R.drop s = lx R s :: R.drop (s + 1) := by rw [List.drop_eq_getElem_cons hs, lx_eq hs]
  have e2 : R.take (s + 1) = R.take s ++ [lx R s] := by rw [List.take_succ, lx_some hs]; rfl
  unfold insD
  rw [e1, e2, List.reverse_cons, List.reverse_append]
  simp only [List.reverse_cons, List.reverse_nil, List.nil_append, List.append_assoc, List.cons_append, List.singleton_append]
  have hl : (R.drop (s + 1)).reverse.length = R.length - s - 1 := by simp; omega
  rw [List.set_append_right _ _ (by omega), show R.length - s - (R.drop (s + 1)).reverse.length = 1 by omega]
  rw [List.set_append_right _ _ (by omega), show R.length - s - 1 - (R.drop (s + 1)).reverse.length = 0 by omega]
  simp
theorem insD_0 (R : List Int) (x : Int) (rest : List Int) : insD R x 0 rest = R.reverse ++ x :: rest := by simp [insD]
theorem insD_end {R : List Int} {x : Int} {s : Nat} {rest : List Int} (h : insRv lt x R = R.take s ++ x :: R.drop s) : insD R x s rest = (insRv lt x R).reverse ++ rest := by
  rw [h, insD]; simp
end

section
set_option linter.all false
set_option pp.maxSteps 100000
set_option maxRecDepth 100000
set_option maxHeartbeats 4000000
open Go.RowKit

theorem insI_v {w0 w : World} {Bs : List Nat} {F : List En} (gf : FuncId) (cb : Array Value) (cf : Int → Int → Int) (l : List Int) (g : Nat) (hl : l.length ≤ 8) (eg : ∀ args w, (callFunc gf args).run Tryz.prog w = .ok (.enter gf args) w)
    (hcmp : ∀ a b, a ∈ l → b ∈ l → ∀ F' w, Mem w0 Bs (F ++ F') w → Calls Tryz.prog gf (#[.int .i64 a, .int .i64 b] ++ cb) w (fun e w' => e = .returned (.int .i64 (cf a b)) ∧ Below w.heap.size w w'))
    (hm : Mem w0 Bs (.cells g (ic l) :: F) w) :
    Calls Tryz.prog 153 #[.slice (some ⟨g, 0, none⟩) l.length l.length, .int .i64 0, .int .i64 l.length, .func (.func gf) #[] cb] w (fun e w' => ∃ u : Unit, e = .returned (.tuple #[]) ∧ Mem w0 Bs (.cells g (ic (stS (fun a b => decide (cf a b < 0)) l)) :: F) w') := by
  generalize hlt : (fun a b => decide (cf a b < 0)) = lt
  have hR : ∀ i, i ≤ l.length → (stRv lt (l.take i)).length = i := fun i hi => by rw [stRv_len]; simp; omega
  refine go_in0 Tryz.func153 rfl Tryz.ntmps153 hm ?_
  refine go ?_
  by_cases h0 : l.length = 0
  · obtain rfl : l = [] := List.eq_nil_of_length_eq_zero h0
    refine go_loop (X := Unit) (fun _ => True) (fun _ => 0) (fun _ => [(8, .int .i64 1)]) (fun _ => .cells g (ic ([] : List Int)) :: F) () [0, 1, 2, 3] trivial ⟨fun g => rfl, trivial⟩ (Sub.refl _) (fun i hi => ?_)
    refine go ?_
    exact end0 (fun w' hw => ⟨(), rfl, hw⟩)
  refine go_loop (X := Nat) (fun i => 1 ≤ i ∧ i ≤ l.length) (fun i => l.length - i) (fun i => [(8, .int .i64 i)]) (fun i => .cells g (ic ((stRv lt (l.take i)).reverse ++ l.drop i)) :: F) 1 [0, 1, 2, 3] ⟨Nat.le_refl _, by omega⟩ (by simp [AgreeL, At]) ?_ (fun i hi => ?_)
  · have e : (stRv lt (l.take 1)).reverse ++ l.drop 1 = l := by
      cases l with
      | nil => simp at h0
      | cons x l => simp [stRv, insRv]
    rw [e]; exact Sub.refl _
  refine go ?_
  refine go_if (fun h => ?_) (fun h => ?_)
  rotate_left
  · obtain rfl : i = l.length := by omega
    refine go ?_
    refine end0 (fun w' hw => ⟨(), rfl, ?_⟩)
    rw [List.take_length, List.drop_length, List.append_nil] at hw
    exact hw
  have hi2 : i < l.length := by omega
  have hRi := hR i hi.2
  generalize hRg : stRv lt (l.take i) = R at hRi
  have hx0 : l.drop i = lx l i :: l.drop (i + 1) := drop_lx hi2
  have hmR : ∀ y ∈ R, y ∈ l := fun y hy => by
    have : y ∈ stS lt (l.take i) := by rw [stS, List.mem_reverse, hRg]; exact hy
    exact List.mem_of_mem_take ((stS_mem _).1 this)
  refine go ?_
  refine go_loop (X := Nat) (fun s => s ≤ i ∧ ∀ t, t < s → lt (lx l i) (lx R t) = true) (fun s => i - s) (fun s => [(9, .int .i64 ((i : Int) - s))]) (fun s => .cells g (ic (insD R (lx l i) s (l.drop (i + 1)))) :: F) 0 [0, 1, 2, 3, 8] ⟨Nat.zero_le _, fun t ht => by omega⟩ (by simp [AgreeL, At]) (by rw [insD_0, hx0]; exact Sub.refl _) (fun s hs => ?_)
  have hDl := insD_len R (lx l i) s (l.drop (i + 1))
  have hDl2 : (insD R (lx l i) s (l.drop (i + 1))).length = l.length := by rw [hDl, List.length_drop]; omega
  have hDx := insD_x (R := R) (x := lx l i) (s := s) (rest := l.drop (i + 1)) (by omega)
  refine go ?_
  have hxl : lx l i ∈ l := lx_mem hi2
  have hfin : (s = i ∨ lt (lx l i) (lx R s) = false) → insD R (lx l i) s (l.drop (i + 1)) = (stRv lt (l.take (i + 1))).reverse ++ l.drop (i + 1) := fun h => by
    have e : l.take (i + 1) = l.take i ++ [lx l i] := by rw [List.take_succ, lx_some hi2]; rfl
    rw [e, stRv_snoc, hRg]
    exact insD_end (insRv_at R s (by omega) hs.2 (by rw [hRi]; exact h))
  refine D.sp (fun h2 => ?_) (fun h2 => ?_)
  rotate_left
  · have hsi : s = i := by omega
    refine go ?_
    rw [hfin (.inl hsi)]
    exact go_again (i + 1) ⟨by omega, by omega⟩ (by omega) (by simp [AgreeL, At]) (Sub.refl _)
  have hsi : s < i := by omega
  have hDy := insD_y (R := R) (x := lx l i) (s := s) (rest := l.drop (i + 1)) (by omega)
  have hyR : lx R s ∈ R := lx_mem (by omega)
  refine go ?_
  refine D.q ⟨_, fun X F => Ex.xi (b := g) (l := insD R (lx l i) s (l.drop (i + 1))) (i := i - s) (z := (i : Int) - s) (by omega) hDl2 (by omega), ?_⟩
  refine go ?_
  refine D.q ⟨_, fun X F => Ex.li (b := g) (i := i - s) (l := insD R (lx l i) s (l.drop (i + 1))) (by omega) (fun w hw => hw.cells pk), ?_⟩
  refine go ?_
  refine D.q ⟨_, fun X F => Ex.xi (b := g) (l := insD R (lx l i) s (l.drop (i + 1))) (i := i - s - 1) (z := (i : Int) - s - 1) (by omega) hDl2 (by omega), ?_⟩
  refine go ?_
  refine D.q ⟨_, fun X F => Ex.li (b := g) (i := i - s - 1) (l := insD R (lx l i) s (l.drop (i + 1))) (by omega) (fun w hw => hw.cells pk), ?_⟩
  rw [hRi] at hDx hDy
  rw [hDx, hDy]
  refine go ?_
  refine GoL.cv (fun w' hw => hcmp (lx l i) (lx R s) hxl (hmR _ hyR) [] w' (by rw [List.append_nil]; exact hw.sub (Sub.tl (Sub.refl _)))) ?_
  refine go ?_
  refine go_if (fun h3 => ?_) (fun h3 => ?_)
  rotate_left
  · refine go ?_
    rw [hfin (.inr (by rw [← hlt]; simpa using h3))]
    exact go_again (i + 1) ⟨by omega, by omega⟩ (by omega) (by simp [AgreeL, At]) (Sub.refl _)
  have h3' : lt (lx l i) (lx R s) = true := by rw [← hlt]; simpa using h3
  have hSw := insD_swap (R := R) (x := lx l i) (s := s) (rest := l.drop (i + 1)) (by omega)
  rw [hRi] at hSw
  generalize insD R (lx l i) s (l.drop (i + 1)) = D1 at *
  refine go_skip ?_
  refine xt_n ?_
  refine go_seq ?_
  refine go_blk ?_
  refine go_drw [.cells g (ic D1)] F ?_
  refine go ?_
  refine D.q ⟨_, fun X F => Ex.xi (b := g) (l := D1) (i := i - s - 1) (z := (i : Int) - s - 1) (by omega) hDl2 (by omega), ?_⟩
  refine D.qu [18] ⟨_, fun X F => Ex.li (b := g) (i := i - s - 1) (l := D1) (by omega) (fun w hw => hw.cells .here), ?_⟩
  refine go ?_
  refine D.q ⟨_, fun X F => Ex.xi (b := g) (l := D1) (i := i - s) (z := (i : Int) - s) (by omega) hDl2 (by omega), ?_⟩
  refine D.qu [18] ⟨_, fun X F => Ex.li (b := g) (i := i - s) (l := D1) (by omega) (fun w hw => hw.cells .here), ?_⟩
  rw [hDx, hDy]
  refine D.q ⟨_, fun X F => Ex.xi (b := g) (l := D1) (i := i - s) (z := (i : Int) - s) (by omega) hDl2 (by omega), ?_⟩
  refine D.s (A := fun _ _ => .cells g (ic (D1.set (i - s) (lx R s)))) [] [] [18] (fun X F => Ef.sr .here (by omega)) ?_
  refine D.nil [(15, fun _ => .cells g (ic (D1.set (i - s) (lx R s))))] (fun X => ?_) (hchk := (by show chkDD _ _ 1 [15] = true; decide +kernel))
  refine GoL.q ⟨_, Ex.xi (b := g) (l := D1.set (i - s) (lx R s)) (i := i - s - 1) (z := (i : Int) - s - 1) (by simp; omega) (by simp; omega) (by omega), ?_⟩
  refine GoL.sr (b := g) (l := D1.set (i - s) (lx R s)) (i := i - s - 1) (z := lx l i) .here (by simp; omega) ?_
  rw [hSw]
  refine go ?_
  refine go_again (s + 1) ⟨by omega, fun t ht => ?_⟩ (by omega) (by simp [AgreeL, At]; omega) (Sub.refl _)
  rcases Nat.lt_or_ge t s with h9 | h9
  · exact hs.2 t h9
  · obtain rfl : t = s := by omega
    exact h3'
end

section
set_option linter.all false
set_option pp.maxSteps 100000
set_option maxRecDepth 100000
set_option maxHeartbeats 4000000
open Go.RowKit

theorem stable_v {w0 w : World} {Bs : List Nat} {F : List En} (gf : FuncId) (cb : Array Value) (cf : Int → Int → Int) (l : List Int) (g : Nat) (hl : l.length ≤ 8) (eg : ∀ args w, (callFunc gf args).run Tryz.prog w = .ok (.enter gf args) w)
    (hcmp : ∀ a b, a ∈ l → b ∈ l → ∀ F' w, Mem w0 Bs (F ++ F') w → Calls Tryz.prog gf (#[.int .i64 a, .int .i64 b] ++ cb) w (fun e w' => e = .returned (.int .i64 (cf a b)) ∧ Below w.heap.size w w'))
    (hm : Mem w0 Bs (.cells g (ic l) :: F) w) :
    Calls Tryz.prog 127 #[.slice (some ⟨g, 0, none⟩) l.length l.length, .int .i64 l.length, .func (.func gf) #[] cb] w (fun e w' => ∃ u : Unit, e = .returned (.tuple #[]) ∧ Mem w0 Bs (.cells g (ic (stS (fun a b => decide (cf a b < 0)) l)) :: F) w') := by
  refine go_in0 Tryz.func127 rfl Tryz.ntmps127 hm ?_
  refine go ?_
  refine go_loop (X := Unit) (fun _ => True) (fun _ => 0) (fun _ => [(7, .int .i64 0), (8, .int .i64 20), (6, .int .i64 20)]) (fun _ => .cells g (ic l) :: F) () [0, 1, 2] trivial (by simp [AgreeL, At]) (Sub.refl _) (fun i hi => ?_)
  refine go ?_
  refine go_if (fun h => ?_) (fun h => ?_)
  · exact absurd h (by omega)
  refine go ?_
  refine GoL.cm (fun w' hw => insI_v gf cb cf l g hl eg hcmp hw) (fun _ => ?_)
  refine go ?_
  refine go_loop (X := Unit) (fun _ => True) (fun _ => 0) (fun _ => [(6, .int .i64 20)]) (fun _ => .cells g (ic (stS (fun a b => decide (cf a b < 0)) l)) :: F) () [0, 1, 2] trivial (by simp [AgreeL, At]) (Sub.refl _) (fun i hi => ?_)
  refine go ?_
  refine go_if (fun h => ?_) (fun h => ?_)
  · exact absurd h (by omega)
  refine go ?_
  exact end0 (fun w' hw => ⟨(), rfl, hw⟩)
theorem sortSt_v {w0 w : World} {Bs : List Nat} {F : List En} (gf : FuncId) (cb : Array Value) (cf : Int → Int → Int) (l : List Int) (g : Nat) (hl : l.length ≤ 8) (eg : ∀ args w, (callFunc gf args).run Tryz.prog w = .ok (.enter gf args) w)
    (hcmp : ∀ a b, a ∈ l → b ∈ l → ∀ F' w, Mem w0 Bs (F ++ F') w → Calls Tryz.prog gf (#[.int .i64 a, .int .i64 b] ++ cb) w (fun e w' => e = .returned (.int .i64 (cf a b)) ∧ Below w.heap.size w w'))
    (hm : Mem w0 Bs (.cells g (ic l) :: F) w) :
    Calls Tryz.prog 104 #[.slice (some ⟨g, 0, none⟩) l.length l.length, .func (.func gf) #[] cb] w (fun e w' => ∃ u : Unit, e = .returned (.tuple #[]) ∧ Mem w0 Bs (.cells g (ic (stS (fun a b => decide (cf a b < 0)) l)) :: F) w') := by
  refine go_in0 Tryz.func104 rfl Tryz.ntmps104 hm ?_
  refine go ?_
  refine GoL.cm (fun w' hw => stable_v gf cb cf l g hl eg hcmp hw) (fun _ => ?_)
  refine go ?_
  exact end0 (fun w' hw => ⟨(), rfl, hw⟩)
theorem laid1_v (x : PD) (b bX : Nat) (w : World) (hx : x.At b w) (hok : x.Ok) (hX : Cells w bX [.pointer (some ⟨b, 0, none⟩)]) (a c : Int) (ha : 0 ≤ a ∧ a < x.t.ps.length) (hc : 0 ≤ c ∧ c < x.t.ps.length) :
    Calls Tryz.prog 105 #[.int .i64 a, .int .i64 c, .pointer (some ⟨bX, 0, none⟩)] w (fun e w' => e = .returned (.int .i64 ((lx x.t.ps c.toNat).cnt - (lx x.t.ps a.toNat).cnt)) ∧ Below w.heap.size w w') := by
  have hcx := hx.c
  have htp := hx.t.p
  have h1 := hok.cnt _ (lx_mem (l := x.t.ps) (i := c.toNat) (by omega))
  have h2 := hok.cnt _ (lx_mem (l := x.t.ps) (i := a.toNat) (by omega))
  refine go_in Tryz.func105 rfl Tryz.ntmps105 [] [] (Mem.start _) ?_
  refine go ?_
  exact ev1 rfl
theorem callLaid1 (args : Array Value) (w : World) : (callFunc 105 args).run Tryz.prog w = .ok (.enter 105 args) w := by go_simp
/-- the paths in the order in which they are laid -/
def ordL (t : TD) : List Int := stS (fun a b => decide ((lx t.ps b.toNat).cnt - (lx t.ps a.toNat).cnt < 0)) ((List.range t.ps.length).map fun (i : Nat) => (i : Int))
end

section
set_option linter.all false
open Go.RowKit

theorem nodup_sub {α : Type} [DecidableEq α] : ∀ (l m : List α), l.Nodup → (∀ x ∈ l, x ∈ m) → l.length ≤ m.length
  | [], _, _, _ => Nat.zero_le _
  | x :: l, m, hn, h => by
    rw [List.nodup_cons] at hn
    have hx := h x (by simp)
    have ih := nodup_sub l (m.erase x) hn.2 (fun y hy => (List.mem_erase_of_ne (fun e => hn.1 (by rw [← e]; exact hy))).2 (h y (by simp [hy])))
    rw [List.length_erase_of_mem hx] at ih
    have : 0 < m.length := List.length_pos_of_mem hx
    simp only [List.length_cons]; omega
/-- numbers below m -/
def natsI (m : Nat) : List Int := (List.range m).map fun (i : Nat) => (i : Int)
theorem natsI_len (m : Nat) : (natsI m).length = m := by simp [natsI]
theorem natsI_nodup (m : Nat) : (natsI m).Nodup := by
  unfold natsI
  rw [List.nodup_iff_pairwise_ne, List.pairwise_map]
  exact (List.nodup_iff_pairwise_ne.1 List.nodup_range).imp fun h e => h (by omega)
theorem natsI_mem {m : Nat} {z : Int} : z ∈ natsI m ↔ 0 ≤ z ∧ z < m := by
  unfold natsI
  rw [List.mem_map]
  constructor
  · rintro ⟨i, hi, rfl⟩; have := List.mem_range.1 hi; omega
  · intro h; exact ⟨z.toNat, List.mem_range.2 (by omega), by omega⟩
/-- not all of the first addresses are taken, where an item is not laid -/
theorem some_free {lay : List Int} {m : Nat} (hm : lay.length ≤ m) {i : Nat} (hi : i < lay.length) (hneg : lx lay i < 0) : ∃ z : Int, 0 ≤ z ∧ z < m ∧ z ∉ lay := by
  refine Classical.byContradiction fun h => ?_
  have hall : ∀ z ∈ natsI m, z ∈ lay.erase (lx lay i) := fun z hz => by
    have h1 := natsI_mem.1 hz
    refine (List.mem_erase_of_ne (by omega)).2 (Classical.byContradiction fun h2 => h ⟨z, h1.1, h1.2, h2⟩)
  have h1 := nodup_sub _ _ (natsI_nodup m) hall
  rw [natsI_len, List.length_erase_of_mem (lx_mem hi)] at h1
  omega
/-- the least free address of a place: what lies below it is taken, it is not -/
theorem freeV_spec {lay : List Int} : ∀ (f : Nat) (p : Int), p ≤ freeV lay p f ∧ freeV lay p f ≤ p + 16 * f ∧ (freeV lay p f - p) % 16 = 0 ∧ (∀ q, p ≤ q → q < freeV lay p f → (q - p) % 16 = 0 → q ∈ lay) ∧ (freeV lay p f < p + 16 * f → freeV lay p f ∉ lay)
  | 0, p => ⟨Int.le_refl _, by simp [freeV], by simp [freeV], fun q h1 h2 => by simp [freeV] at h2; omega, fun h => by simp [freeV] at h⟩
  | f + 1, p => by
    unfold freeV
    split
    · rename_i hp
      obtain ⟨h1, h2, h3, h4, h5⟩ := freeV_spec (lay := lay) f (p + 16)
      refine ⟨by omega, by omega, by omega, fun q g1 g2 g3 => ?_, fun h => h5 (by omega)⟩
      by_cases e : q = p
      · rw [e]; exact hp
      · exact h4 q (by omega) g2 (by omega)
    · rename_i hp
      exact ⟨Int.le_refl _, by omega, by simp, fun q g1 g2 => by omega, fun _ => hp⟩
theorem freeP_spec {lay : List Int} {lines : Int} (hl : 1 ≤ lines ∧ lines ≤ 8) {p : Nat} (hp : p < 16) :
    (freeP lay lines p = -1 ∧ ∀ q : Int, 0 ≤ q → q < lines * 16 → q % 16 = p → q ∈ lay) ∨ (0 ≤ freeP lay lines p ∧ freeP lay lines p < lines * 16 ∧ freeP lay lines p % 16 = p ∧ freeP lay lines p ∉ lay ∧ ∀ q : Int, 0 ≤ q → q < freeP lay lines p → q % 16 = p → q ∈ lay) := by
  obtain ⟨h1, h2, h3, h4, h5⟩ := freeV_spec (lay := lay) 8 (p : Int)
  unfold freeP
  split
  · rename_i h
    exact .inl ⟨rfl, fun q g1 g2 g3 => h4 q (by omega) (by omega) (by omega)⟩
  · rename_i h
    exact .inr ⟨by omega, by omega, by omega, h5 (by omega), fun q g1 g2 g3 => h4 q (by omega) (by omega) (by omega)⟩
/- the first place from one on that has a free address -/
def nextP (f : List Int) : Nat → Nat → Nat
  | 0, p => p
  | k + 1, p => if lx f p < 0 then nextP f k ((p + 1) % 16) else p
theorem nextP_ok {f : List Int} : ∀ k p, p < 16 → (∃ j, j < k ∧ 0 ≤ lx f ((p + j) % 16)) → nextP f k p < 16 ∧ 0 ≤ lx f (nextP f k p)
  | 0, p, hp, ⟨j, h, _⟩ => by omega
  | k + 1, p, hp, ⟨j, hj, h⟩ => by
    unfold nextP
    split
    · rename_i hneg
      refine nextP_ok k _ (by omega) ⟨j - 1, ?_, ?_⟩
      · cases j with
        | zero => rw [Nat.add_zero, Nat.mod_eq_of_lt hp] at h; omega
        | succ j => omega
      · cases j with
        | zero => rw [Nat.add_zero, Nat.mod_eq_of_lt hp] at h; omega
        | succ j => rw [show ((p + 1) % 16 + (j + 1 - 1)) % 16 = (p + (j + 1)) % 16 by omega]; exact h
    · rename_i h2; exact ⟨hp, by omega⟩
/-- an event is laid -/
def stepLay (lines : Int) (s : List Int × Nat) (v : Evt) : List Int × Nat :=
  if lx s.1 v.item.toNat < 0 then (s.1.set v.item.toNat (lx (freeL s.1 lines) (nextP (freeL s.1 lines) 16 s.2)), ((lx (freeL s.1 lines) (nextP (freeL s.1 lines) 16 s.2) + 1) % 16).toNat)
  else (s.1, ((lx s.1 v.item.toNat + 1) % 16).toNat)
def evTo (lines : Int) (l : List Evt) (lay : List Int) : Nat → List Int × Nat
  | 0 => (lay, 0)
  | k + 1 => stepLay lines (evTo lines l lay k) (lx l k)
def lyTo (t : TD) : Nat → List Int
  | 0 => List.replicate (t.os.length + t.data.toNat) (-1)
  | k + 1 => (evTo t.lines (evsE t (lx (ordL t) k).toNat) (lyTo t k) (evsE t (lx (ordL t) k).toNat).length).1
/-- an item that no path has -/
def fillI (i : Nat) : Nat → List Int → Int → List Int × Int
  | 0, lay, a => (lay, a)
  | k + 1, lay, a => if lx lay i < 0 then fillI i k (if a ∈ lay then lay else lay.set i a) (a + 1) else (lay, a)
def flTo (t : TD) : Nat → List Int × Int
  | 0 => (lyTo t t.ps.length, 0)
  | k + 1 => fillI k 100 (flTo t k).1 (flTo t k).2
def laidL (t : TD) : List Int := (flTo t (t.os.length + t.data.toNat)).1
/- a layout under way -/
structure LayI (n : Nat) (lines : Int) (lay : List Int) : Prop where
  len : lay.length = n
  rg : ∀ a ∈ lay, -1 ≤ a ∧ a < lines * 16
  ds : ∀ i j, i < j → j < n → 0 ≤ lx lay i → lx lay i ≠ lx lay j
theorem lx_set_ne {l : List Int} {i j : Nat} {v : Int} (h : j ≠ i) : lx (l.set i v) j = lx l j := by
  simp [lx, List.getD_eq_getElem?_getD, List.getElem?_set_ne (Ne.symm h)]
theorem LayI.set {n : Nat} {lines : Int} {lay : List Int} (h : LayI n lines lay) {i : Nat} {a : Int} (hi : i < n) (ha : 0 ≤ a ∧ a < lines * 16) (hn : a ∉ lay) : LayI n lines (lay.set i a) := by
  have hl := h.len
  refine ⟨by simp [hl], fun x hx => ?_, fun j k hjk hk h0 => ?_⟩
  · rcases List.mem_or_eq_of_mem_set hx with hx | rfl
    · exact h.rg x hx
    · omega
  · by_cases e1 : j = i
    · subst e1
      rw [lx_set (by omega), lx_set_ne (by omega)]
      exact fun e => hn (e ▸ lx_mem (by omega))
    · rw [lx_set_ne e1] at h0 ⊢
      by_cases e2 : k = i
      · subst e2
        rw [lx_set (by omega)]
        exact fun e => hn (e ▸ lx_mem (by omega))
      · rw [lx_set_ne e2]; exact h.ds j k hjk hk h0
/-- where an item is not laid, some place has a free address -/
theorem place_free {n : Nat} {lines : Int} {lay : List Int} (hl : 1 ≤ lines ∧ lines ≤ 8) (hn : (n : Int) ≤ lines * 16) (h : lay.length = n) {i : Nat} (hi : i < n) (hneg : lx lay i < 0) {p : Nat} (hp : p < 16) : ∃ j, j < 16 ∧ 0 ≤ lx (freeL lay lines) ((p + j) % 16) := by
  obtain ⟨z, h1, h2, h3⟩ := some_free (lay := lay) (m := (lines * 16).toNat) (by omega) (by omega) hneg
  have hq : (z % 16).toNat < 16 := by omega
  refine ⟨((z % 16).toNat + 16 - p) % 16, by omega, ?_⟩
  rw [show (p + ((z % 16).toNat + 16 - p) % 16) % 16 = (z % 16).toNat by omega, freeL_at hq]
  rcases freeP_spec (lay := lay) hl hq with ⟨_, h4⟩ | ⟨h4, _⟩
  · exact absurd (h4 z h1 (by omega) (by omega)) h3
  · exact h4
theorem stepLay_ok {n : Nat} {lines : Int} (hl : 1 ≤ lines ∧ lines ≤ 8) (hn : (n : Int) ≤ lines * 16) {s : List Int × Nat} {v : Evt} (h : LayI n lines s.1) (hp : s.2 < 16) (hv : 0 ≤ v.item ∧ v.item < n) :
    LayI n lines (stepLay lines s v).1 ∧ (stepLay lines s v).2 < 16 ∧ (∀ i, 0 ≤ lx s.1 i → lx (stepLay lines s v).1 i = lx s.1 i) ∧ 0 ≤ lx (stepLay lines s v).1 v.item.toNat := by
  have hlen := h.len
  unfold stepLay
  split
  · rename_i hneg
    obtain ⟨h1, h2⟩ := nextP_ok 16 s.2 hp (place_free hl hn hlen (i := v.item.toNat) (by omega) hneg hp)
    have h3 := freeL_at (lay := s.1) (lines := lines) h1
    rw [h3] at h2 ⊢
    rcases freeP_spec (lay := s.1) hl h1 with ⟨h4, _⟩ | ⟨_, h5, _, h6, _⟩
    · omega
    · refine ⟨h.set (by omega) ⟨h2, h5⟩ h6, by omega, fun i hi => ?_, ?_⟩
      · exact lx_set_ne (fun e => by rw [e] at hi; omega)
      · rw [lx_set (by omega)]; exact h2
  · rename_i hneg
    have h9 : 0 ≤ lx s.1 v.item.toNat := by omega
    exact ⟨h, by simp only; omega, fun _ _ => rfl, h9⟩
theorem stepLay_pl {lines : Int} {s : List Int × Nat} {v : Evt} (h : v.item.toNat < s.1.length) : (stepLay lines s v).2 = ((lx (stepLay lines s v).1 v.item.toNat + 1) % 16).toNat := by
  unfold stepLay
  split
  · dsimp only; rw [lx_set h]
  · rfl
theorem evTo_ok {n : Nat} {lines : Int} (hl : 1 ≤ lines ∧ lines ≤ 8) (hn : (n : Int) ≤ lines * 16) {l : List Evt} {lay : List Int} (h : LayI n lines lay) (hv : ∀ v ∈ l, 0 ≤ v.item ∧ v.item < (n : Int)) : ∀ k, k ≤ l.length → LayI n lines (evTo lines l lay k).1 ∧ (evTo lines l lay k).2 < 16
  | 0, _ => ⟨h, by simp [evTo]⟩
  | k + 1, hk => by
    have ih := evTo_ok hl hn h hv k (by omega)
    have := stepLay_ok hl hn ih.1 ih.2 (hv _ (lx_mem (l := l) (i := k) (by omega)))
    exact ⟨this.1, this.2.1⟩
theorem fillI_ok {n : Nat} {lines : Int} (hn : (n : Int) ≤ lines * 16) {i : Nat} (hi : i < n) : ∀ (k : Nat) (lay : List Int) (a : Int), LayI n lines lay → 0 ≤ a → (∀ q, 0 ≤ q → q < a → q ∈ lay) → (lx lay i < 0 → (n : Int) < a + k) →
    LayI n lines (fillI i k lay a).1 ∧ 0 ≤ lx (fillI i k lay a).1 i ∧ (∀ j, 0 ≤ lx lay j → lx (fillI i k lay a).1 j = lx lay j) ∧ 0 ≤ (fillI i k lay a).2 ∧ ∀ q, 0 ≤ q → q < (fillI i k lay a).2 → q ∈ (fillI i k lay a).1
  | 0, lay, a, h, h0, hq, hk => by
    refine ⟨h, Classical.byContradiction fun hneg => ?_, fun _ _ => rfl, h0, hq⟩
    have hneg' : lx lay i < 0 := by simpa [fillI] using hneg
    have h1 := hk hneg'
    obtain ⟨z, g1, g2, g3⟩ := some_free (lay := lay) (m := n) (by rw [h.len]; exact Nat.le_refl _) (by rw [h.len]; exact hi) hneg'
    exact g3 (hq z g1 (by omega))
  | k + 1, lay, a, h, h0, hq, hk => by
    unfold fillI
    split
    · rename_i hneg
      split
      · rename_i ha
        exact fillI_ok hn hi k lay (a + 1) h (by omega) (fun q g1 g2 => by
          by_cases e : q = a
          · rw [e]; exact ha
          · exact hq q g1 (by omega)) (fun _ => by have := hk hneg; push_cast at this; omega)
      · rename_i ha
        have han : a < n := by
          obtain ⟨z, g1, g2, g3⟩ := some_free (lay := lay) (m := n) (by rw [h.len]; exact Nat.le_refl _) (by rw [h.len]; exact hi) hneg
          have : ¬ z < a := fun h => g3 (hq z g1 h)
          omega
        have h2 := h.set hi ⟨h0, by omega⟩ ha
        have hset : lx (lay.set i a) i = a := lx_set (by rw [h.len]; exact hi)
        obtain ⟨r1, r2, r3, r4, r5⟩ := fillI_ok hn hi k (lay.set i a) (a + 1) h2 (by omega) (fun q g1 g2 => by
          by_cases e : q = a
          · have h9 := lx_mem (l := lay.set i a) (i := i) (by rw [h2.len]; exact hi)
            rw [hset] at h9; rw [e]; exact h9
          · have hm := hq q g1 (by omega)
            obtain ⟨j, hj, e2⟩ := List.mem_iff_getElem.1 hm
            have hji : j ≠ i := fun e3 => by
              subst e3; rw [← lx_eq hj] at e2; omega
            rw [← e2, ← lx_eq hj, ← lx_set_ne (v := a) hji]
            exact lx_mem (by simpa using hj)) (fun hneg2 => by rw [hset] at hneg2; omega)
        refine ⟨r1, r2, fun j hj => ?_, r4, r5⟩
        have hji : j ≠ i := fun e => by rw [e] at hj; omega
        rw [r3 j (by rw [lx_set_ne hji]; exact hj), lx_set_ne hji]
    · rename_i hneg
      exact ⟨h, (by omega : 0 ≤ lx lay i), fun _ _ => rfl, h0, hq⟩
theorem ordL_mem {t : TD} {k : Nat} (hk : k < t.ps.length) : 0 ≤ lx (ordL t) k ∧ lx (ordL t) k < t.ps.length := by
  have h1 : (ordL t).length = t.ps.length := by rw [ordL, stS_len]; simp
  have h2 : lx (ordL t) k ∈ (List.range t.ps.length).map fun (i : Nat) => (i : Int) := (stS_mem _).1 (lx_mem (by rw [← h1] at hk; exact hk))
  obtain ⟨i, hi, e⟩ := List.mem_map.1 h2
  have := List.mem_range.1 hi
  rw [← e]; omega
theorem evsE_item {t : TD} (ht : t.Ok) {i : Nat} (hi : i < t.ps.length) : ∀ v ∈ evsE t i, 0 ≤ v.item ∧ v.item < ((t.os.length + t.data.toNat : Nat) : Int) := by
  intro v hv
  rw [evsE, openE, lx_map hi] at hv
  have := pathE_item ht (lx_mem hi) v hv
  have := ht.d1
  push_cast; omega
theorem lyTo_ok {t : TD} (ht : t.Ok) : ∀ k, k ≤ t.ps.length → LayI (t.os.length + t.data.toNat) t.lines (lyTo t k)
  | 0, _ => by
    have := ht.l1
    refine ⟨by simp [lyTo], fun a ha => ?_, fun i j _ hj h0 => ?_⟩
    · obtain rfl : a = -1 := by simp [lyTo] at ha; exact ha.2
      omega
    · have : lx (lyTo t 0) i = -1 := by
        show lx (List.replicate _ (-1)) i = -1
        rw [lx_eq (by simp; omega)]; simp
      omega
  | k + 1, hk => by
    have ih := lyTo_ok ht k (by omega)
    have ho := ordL_mem (t := t) (k := k) (by omega)
    have hit := ht.it
    have hd := ht.d1
    exact (evTo_ok ht.l1 (by push_cast; omega) ih (evsE_item ht (by omega)) _ (Nat.le_refl _)).1
theorem flTo_ok {t : TD} (ht : t.Ok) : ∀ k, k ≤ t.os.length + t.data.toNat → LayI (t.os.length + t.data.toNat) t.lines (flTo t k).1 ∧ (∀ i, i < k → 0 ≤ lx (flTo t k).1 i) ∧ 0 ≤ (flTo t k).2 ∧ (∀ q, 0 ≤ q → q < (flTo t k).2 → q ∈ (flTo t k).1)
  | 0, _ => ⟨lyTo_ok ht _ (Nat.le_refl _), fun i hi => by omega, Int.le_refl _, fun q h1 h2 => by simp [flTo] at h2; omega⟩
  | k + 1, hk => by
    obtain ⟨h1, h2, h3, h4⟩ := flTo_ok ht k (by omega)
    have hit := ht.it
    have hd := ht.d1
    have hn := ht.n1
    obtain ⟨r1, r2, r3, r4, r5⟩ := fillI_ok (n := t.os.length + t.data.toNat) (lines := t.lines) (by push_cast; omega) (i := k) (by omega) 100 (flTo t k).1 (flTo t k).2 h1 h3 h4 (fun _ => by push_cast; omega)
    refine ⟨r1, fun i hi => ?_, r4, r5⟩
    by_cases e : i = k
    · rw [e]; exact r2
    · have := h2 i (by omega)
      show 0 ≤ lx (fillI k 100 (flTo t k).1 (flTo t k).2).1 i
      rw [r3 i this]; exact this
/-- the layout with which the good one begins is one -/
theorem laidL_ok {t : TD} (ht : t.Ok) : LayI (t.os.length + t.data.toNat) t.lines (laidL t) ∧ ∀ a ∈ laidL t, 0 ≤ a ∧ a < t.lines * 16 := by
  obtain ⟨h1, h2, _, _⟩ := flTo_ok ht (t.os.length + t.data.toNat) (Nat.le_refl _)
  refine ⟨h1, fun a ha => ?_⟩
  obtain ⟨j, hj, rfl⟩ := List.mem_iff_getElem.1 ha
  have h3 := h2 j (by have := h1.len; unfold laidL at hj; omega)
  have h4 := h1.rg _ ha
  rw [← lx_eq hj]
  rw [← lx_eq hj] at h4
  exact ⟨h3, h4.2⟩
end

section
set_option linter.all false
set_option pp.maxSteps 100000
set_option maxRecDepth 100000
set_option maxHeartbeats 4000000
open Go.RowKit

theorem nats_set {m i : Nat} (h : i < m) : (natsI i ++ List.replicate (m - i) 0).set i (i : Int) = natsI (i + 1) ++ List.replicate (m - (i + 1)) 0 := by
  have e1 : natsI (i + 1) = natsI i ++ [(i : Int)] := by simp [natsI, List.range_succ]
  have e2 : List.replicate (m - i) (0 : Int) = 0 :: List.replicate (m - (i + 1)) 0 := by
    rw [show m - i = (m - (i + 1)) + 1 by omega, List.replicate_succ]
  rw [e1, e2, List.set_append_right _ _ (by rw [natsI_len]; exact Nat.le_refl _), natsI_len, Nat.sub_self]
  simp
theorem laid_v (x : PD) (b : Nat) (w : World) (hx : x.At b w) (hok : x.Ok) (ht : x.t.Ok) (hes : x.es.map (·.l) = openE x.t) :
    Calls Tryz.prog 62 #[.pointer (some ⟨b, 0, none⟩)] w (Ret (fun g : Nat => .slice (some ⟨g, 0, none⟩) x.n x.n) (fun g => [.cells g (ic (laidL x.t))]) w) := by
  have hc := hx.c
  have hev := hx.e
  have HE := hid hok.e1
  have HN := hid (show x.n = x.t.os.length + x.t.data.toNat from rfl)
  have hn1 : 1 ≤ x.n ∧ x.n ≤ 40 := by have := hok.n1; have := hok.d1; unfold PD.n; omega
  have hp1 := hok.p1
  refine go_in Tryz.func62 rfl Tryz.ntmps62 [] [] (Mem.start _) ?_
  refine go ?_
  refine GoL.a (fun bX => ?_)
  refine go ?_
  refine GoL.as (fun bL => ?_)
  refine go ?_
  refine GoL.cv (fun w' hw => items_v x b w' (hx.old hw) hok) ?_
  refine GoL.c (fun w' hw => repeat_v (-1) x.n bL 1 w' (hw.cells pk) ⟨hn1.1, by omega⟩) (fun g => ?_)
  refine go ?_
  refine GoL.mks (k := x.t.ps.length) (f := fun x => [Value.int .i64 x]) rfl elI elI' (by omega) (fun g4 => ?_)
  refine go ?_
  refine go_loop (X := Nat) (fun i => i ≤ x.t.ps.length) (fun i => x.t.ps.length - i) (fun i => [(27, .int .i64 i)]) (fun i => [.cells g4 (ic (natsI i ++ List.replicate (x.t.ps.length - i) 0)), .cells g (ic (lyTo x.t 0)), .cells bX [.pointer (some ⟨b, 0, none⟩)]]) 0 [1, 3, 4, 26] (Nat.zero_le _) (by simp [AgreeL, At]) ?_ (fun i hi => ?_)
  · have e : lyTo x.t 0 = List.replicate x.n (-1) := rfl
    rw [e]
    simp only [natsI, List.range_zero, List.map_nil, List.nil_append, Nat.sub_zero]
    exact sb
  have hil : (natsI i ++ List.replicate (x.t.ps.length - i) 0).length = x.t.ps.length := by simp [natsI_len]; omega
  refine go ?_
  refine go_if (fun h => ?_) (fun h => ?_)
  · have hi2 : i < x.t.ps.length := by omega
    refine go ?_
    refine GoL.sa (b := g4) (l := natsI i ++ List.replicate (x.t.ps.length - i) 0) (i := i) (z := i) rp (by omega) ?_
    rw [nats_set hi2]
    refine go ?_
    exact go_again (i + 1) hi2 (by omega) (by simp [AgreeL, At]) sb
  obtain rfl : i = x.t.ps.length := by omega
  rw [Nat.sub_self, List.replicate_zero, List.append_nil]
  refine go ?_
  refine GoL.cm (fun w' hw => by
    have := sortSt_v (F := [.cells g (ic (lyTo x.t 0)), .cells bX [.pointer (some ⟨b, 0, none⟩)]]) 105 #[.pointer (some ⟨bX, 0, none⟩)] (fun a c => (lx x.t.ps c.toNat).cnt - (lx x.t.ps a.toNat).cnt) (natsI x.t.ps.length) g4 (by rw [natsI_len]; exact hp1) callLaid1 (fun a c ha hc F' w hw => by
      have h1 := natsI_mem.1 ha
      have h2 := natsI_mem.1 hc
      exact laid1_v x b bX w (hx.old hw) hok (hw.cells pk) a c h1 h2) hw
    rw [natsI_len] at this
    exact this) (fun _ => ?_)
  have hoL : (ordL x.t).length = x.t.ps.length := by rw [ordL, stS_len]; simp
  rw [show stS (fun a c => decide ((lx x.t.ps c.toNat).cnt - (lx x.t.ps a.toNat).cnt < 0)) (natsI x.t.ps.length) = ordL x.t from rfl]
  refine go ?_
  refine go_loop (X := Nat) (fun k => k ≤ x.t.ps.length) (fun k => x.t.ps.length - k) (fun k => [(40, .int .i64 k)]) (fun k => [.cells g (ic (lyTo x.t k)), .cells g4 (ic (ordL x.t)), .cells bX [.pointer (some ⟨b, 0, none⟩)]]) 0 [1, 3, 38, 39] (Nat.zero_le _) (by simp [AgreeL, At]) sb (fun k hk => ?_)
  refine go ?_
  refine go_if (fun h => ?_) (fun h => ?_)
  · have hk2 : k < x.t.ps.length := by omega
    have ho := ordL_mem hk2
    refine go ?_
    refine GoL.q ⟨_, Ex.la (b := g4) (l := ordL x.t) (i := k) (fun w hw => hw.cells pk) (by omega), ?_⟩
    generalize hz : lx (ordL x.t) k = z at ho
    have hzi : z.toNat < x.es.length := by have := HE.out; omega
    have hz2 : z < (x.es.length : Int) := by have := HE.out; omega
    have hEv := hx.q _ (lx_mem hzi)
    have EE := hid (evs_eq hes hzi)
    have hll := hok.len _ (lx_mem hzi)
    have hlk := lyTo_ok ht k (by omega)
    have hit : (x.n : Int) ≤ x.t.lines * 16 := by rw [hok.nn]; exact ht.it
    have hl1 := ht.l1
    have hiv := evsE_item ht (i := z.toNat) (by omega)
    rw [← EE.out] at hiv
    have hES : (evTo x.t.lines (lx x.es z.toNat).l (lyTo x.t k) (lx x.es z.toNat).l.length).1 = lyTo x.t (k + 1) := by rw [lyTo, hz, ← EE.out]
    have HES := hid hES
    clear hES
    refine go ?_
    generalize (lx x.es z.toNat).l = V at hEv EE hll hiv HES ⊢
    refine go_loop (X := Nat) (fun j => j ≤ V.length) (fun j => V.length - j) (fun j => [(52, .int .i64 j), (8, .int .i64 (evTo x.t.lines V (lyTo x.t k) j).2)]) (fun j => [.cells g (ic (evTo x.t.lines V (lyTo x.t k) j).1), .cells g4 (ic (ordL x.t)), .cells bX [.pointer (some ⟨b, 0, none⟩)]]) 0 [1, 3, 38, 39, 40, 50, 51] (Nat.zero_le _) (by simp [AgreeL, At, evTo]) sb (fun j hj => ?_)
    refine go ?_
    refine go_if (fun h3 => ?_) (fun h3 => ?_)
    rotate_left
    · obtain rfl : j = V.length := by omega
      rw [HES.out]
      refine go ?_
      exact go_again (k + 1) (by omega) (by omega) (by simp [AgreeL, At]) sb
    have hj2 : j < V.length := by omega
    obtain ⟨hL, hp16⟩ := evTo_ok hl1 hit hlk hiv j (by omega)
    have hv := hiv _ (lx_mem hj2)
    have hstep : evTo x.t.lines V (lyTo x.t k) (j + 1) = stepLay x.t.lines (evTo x.t.lines V (lyTo x.t k) j) (lx V j) := rfl
    have HS := hid hstep
    clear hstep
    generalize evTo x.t.lines V (lyTo x.t k) j = S at hL hp16 HS
    obtain ⟨lay, p⟩ := S
    dsimp only at hL hp16 ⊢
    have hln := hL.len
    have HLN := hid hln
    have hlx : (lx V j).item.toNat < lay.length := by have := HN.out; omega
    have hlx2 : (lx V j).item < (lay.length : Int) := by omega
    have hrg := hL.rg _ (lx_mem hlx)
    clear hln
    refine go ?_
    refine GoL.a (fun b10 => ?_)
    refine go ?_
    refine GoL.cv (fun w' hw => by
      have := free_v x b lay (some ⟨g, 0, none⟩) x.n w' (hx.old hw) hok (rdC (hw.cells pk)) (by have := HLN.out; omega) (fun a ha => by have := hL.rg a ha; omega)
      rw [HLN.out] at this
      exact this) ?_
    refine go ?_
    refine GoL.a (fun b11 => ?_)
    have hfl := freeL_len lay x.t.lines
    refine GoL.st ⟨b11, 0, _, ic (freeL lay x.t.lines), ic (freeL lay x.t.lines), 16, .agg (ic (freeL lay x.t.lines)).toArray, _, fun g => rfl, fun g => rfl, rfl, (by intro w R hR; go_simp; exact hR), (by simp [hfl]), Rep.here, setLs_all (by simp [hfl]), (fun u hu => by obtain ⟨y, _, rfl⟩ := List.mem_map.1 hu; rfl), (by simp [hfl]), ?_⟩
    refine go ?_
    refine GoL.q ⟨_, Ex.xi (b := g) (l := lay) (i := (lx V j).item.toNat) (k := x.n) (z := (lx V j).item) hlx (HLN.out.trans HN.out.symm) (by omega), ?_⟩
    refine GoL.q ⟨_, Ex.li (b := g) (l := lay) (i := (lx V j).item.toNat) hlx (fun w hw => hw.cells pk), ?_⟩
    refine go ?_
    refine go_join [(1, .pointer (some ⟨bX, 0, none⟩)), (3, .slice (some ⟨g, 0, none⟩) x.n x.n), (10, .pointer (some ⟨b10, 0, none⟩)), (38, .slice (some ⟨g4, 0, none⟩) x.t.ps.length x.t.ps.length), (39, .int .i64 x.t.ps.length), (40, .int .i64 k), (50, .slice (lx x.es z.toNat).a V.length (lx x.es z.toNat).c), (51, .int .i64 V.length), (52, .int .i64 j)]
      [.cells g (ic (stepLay x.t.lines (lay, p) (lx V j)).1), .cells b10 [.int .i64 (lx V j).item, .int .i64 (lx V j).wait], .cells g4 (ic (ordL x.t)), .cells bX [.pointer (some ⟨b, 0, none⟩)]] ?_ ?_
    · refine go_if (fun h4 => ?_) (fun h4 => ?_)
      · have hsl : (stepLay x.t.lines (lay, p) (lx V j)).1 = lay.set (lx V j).item.toNat (lx (freeL lay x.t.lines) (nextP (freeL lay x.t.lines) 16 p)) := by rw [stepLay, if_pos h4]
        have hpf := place_free hl1 hit HLN.out (i := (lx V j).item.toNat) (by have := HLN.out; omega) h4 hp16
        obtain ⟨hq1, hq2⟩ := nextP_ok 16 p hp16 hpf
        rw [hsl]
        generalize hf : freeL lay x.t.lines = f at hfl hpf hq1 hq2 ⊢
        refine go ?_
        refine go_loop (X := Nat × Nat) (fun y => y.2 < 16 ∧ nextP f y.1 y.2 = nextP f 16 p ∧ y.1 ≤ 16 ∧ ∃ j, j < y.1 ∧ 0 ≤ lx f ((y.2 + j) % 16)) (fun y => y.1) (fun y => [(8, .int .i64 y.2)]) (fun _ => [.cells b11 (ic f), .cells b10 [.int .i64 (lx V j).item, .int .i64 (lx V j).wait], .cells g (ic lay), .cells g4 (ic (ordL x.t)), .cells bX [.pointer (some ⟨b, 0, none⟩)]]) (16, p) [1, 3, 10, 11, 38, 39, 40, 50, 51, 52] ⟨hp16, rfl, Nat.le_refl _, hpf⟩ (by simp [AgreeL, At]) sb (fun y hy => ?_)
        obtain ⟨m, q⟩ := y
        dsimp only at hy ⊢
        obtain ⟨hy1, hy2, hy3, hy4⟩ := hy
        have hq' : (q : Int) < 16 := by omega
        have hqb : lx f q ∈ f := lx_mem (by omega)
        refine go ?_
        refine GoL.q ⟨_, Ex.la (b := b11) (l := f) (i := q) (fun w hw => hw.cells pk) (by omega), ?_⟩
        refine go ?_
        refine go_if (fun h5 => ?_) (fun h5 => ?_)
        · have hm0 : ∃ m', m = m' + 1 := by
            obtain ⟨j', h6, _⟩ := hy4
            exact ⟨m - 1, by omega⟩
          obtain ⟨m', rfl⟩ := hm0
          rw [nextP, if_pos h5] at hy2
          refine go ?_
          refine go_again (m', (q + 1) % 16) ⟨by simp only; omega, hy2, by simp only; omega, ?_⟩ (by simp only; omega) (by simp [AgreeL, At]) sb
          obtain ⟨j', h6, h7⟩ := hy4
          refine ⟨j' - 1, ?_, ?_⟩
          · cases j' with
            | zero => rw [Nat.add_zero, Nat.mod_eq_of_lt hy1] at h7; omega
            | succ j' => simp only; omega
          · cases j' with
            | zero => rw [Nat.add_zero, Nat.mod_eq_of_lt hy1] at h7; omega
            | succ j' => simp only; rw [show ((q + 1) % 16 + (j' + 1 - 1)) % 16 = (q + (j' + 1)) % 16 by omega]; exact h7
        · have hqe : nextP f 16 p = q := by
            rw [← hy2]
            cases m with
            | zero => rfl
            | succ m => rw [nextP, if_neg (by omega)]
          rw [hqe]
          refine go ?_
          refine D.q ⟨_, fun X F => Ex.la (b := b11) (l := f) (i := q) (fun w hw => hw.cells pk) (by omega), ?_⟩
          refine go ?_
          refine GoL.q ⟨_, Ex.xi (b := g) (l := lay) (i := (lx V j).item.toNat) (k := x.n) (z := (lx V j).item) hlx (HLN.out.trans HN.out.symm) (by omega), ?_⟩
          refine GoL.sr (b := g) (l := lay) (i := (lx V j).item.toNat) (z := lx f q) rp hlx ?_
          refine go ?_
          exact xj_n (by simp [AgreeL, At]) sb
      · have hsl : (stepLay x.t.lines (lay, p) (lx V j)).1 = lay := by rw [stepLay, if_neg (by simp only; omega)]
        rw [hsl]
        refine go ?_
        exact xj_n (by simp [AgreeL, At]) sb
    have hso := (stepLay_ok hl1 hit (s := (lay, p)) hL hp16 hv)
    generalize hT : stepLay x.t.lines (lay, p) (lx V j) = T at hso HS
    have hpl : T.2 = ((lx T.1 (lx V j).item.toNat + 1) % 16).toNat := by rw [← hT]; exact stepLay_pl hlx
    obtain ⟨lay2, p2⟩ := T
    dsimp only at hso hpl ⊢
    have hl2 := hso.1.len
    have hlx3 : (lx V j).item.toNat < lay2.length := by rw [hl2, ← HLN.out]; exact hlx
    have hrg2 := hso.1.rg _ (lx_mem hlx3)
    have h02 := hso.2.2.2
    have HL2 := hid hl2
    have HPL := hid hpl
    clear hl2 hpl hT
    refine go ?_
    refine GoL.q ⟨_, Ex.xi (b := g) (l := lay2) (i := (lx V j).item.toNat) (k := x.n) (z := (lx V j).item) hlx3 HL2.out (by omega), ?_⟩
    refine GoL.q ⟨_, Ex.li (b := g) (l := lay2) (i := (lx V j).item.toNat) hlx3 (fun w hw => hw.cells pk), ?_⟩
    refine go ?_
    have e8 : ((p2 : Nat) : Int) = (lx lay2 (lx V j).item.toNat + 1) % 16 := by have := HPL.out; omega
    rw [← e8]
    refine GoX.mem (H' := [.cells g (ic (evTo x.t.lines V (lyTo x.t k) (j + 1)).1), .cells g4 (ic (ordL x.t)), .cells bX [.pointer (some ⟨b, 0, none⟩)]]) (fun w hw => by rw [HS.out]; exact hw.sub sb) ?_
    exact go_again (j + 1) hj2 (by omega) (by simp [AgreeL, At, HS.out]) sb
  · obtain rfl : k = x.t.ps.length := by omega
    refine go ?_
    refine go_loop (X := Nat) (fun i => i ≤ x.n) (fun i => x.n - i) (fun i => [(90, .int .i64 i), (12, .int .i64 (flTo x.t i).2)]) (fun i => [.cells g (ic (flTo x.t i).1)]) 0 [3, 89] (Nat.zero_le _) (by simp [AgreeL, At, flTo]) (by simp only [flTo]; exact sb) (fun i hi => ?_)
    refine go ?_
    refine go_if (fun h3 => ?_) (fun h3 => ?_)
    rotate_left
    · obtain rfl : i = x.n := by omega
      refine go ?_
      exact end1 (fun w' hw => ⟨g, rfl, hw.done sb⟩)
    have hi2 : i < x.n := by omega
    have hF := flTo_ok ht i (by have := HN.out; omega)
    have hfl : flTo x.t (i + 1) = fillI i 100 (flTo x.t i).1 (flTo x.t i).2 := rfl
    have HFL := hid hfl
    clear hfl
    generalize flTo x.t i = S at hF HFL
    obtain ⟨lay, a⟩ := S
    dsimp only at hF HFL ⊢
    refine go ?_
    have hit : (x.n : Int) ≤ x.t.lines * 16 := by rw [hok.nn]; exact ht.it
    refine go_loop (X := Nat × List Int × Int) (fun y => fillI i y.1 y.2.1 y.2.2 = flTo x.t (i + 1) ∧ LayI x.n x.t.lines y.2.1 ∧ 0 ≤ y.2.2 ∧ (∀ q, 0 ≤ q → q < y.2.2 → q ∈ y.2.1) ∧ (lx y.2.1 i < 0 → (x.n : Int) < y.2.2 + y.1)) (fun y => y.1) (fun y => [(12, .int .i64 y.2.2)]) (fun y => [.cells g (ic y.2.1)]) (100, lay, a) [3, 13, 89, 90] ⟨HFL.out.symm, hF.1, hF.2.2.1, hF.2.2.2, fun _ => by have := hF.2.2.1; simp only; omega⟩ (by simp [AgreeL, At]) sb (fun y hy => ?_)
    clear hF HFL
    obtain ⟨m, lay, a⟩ := y
    dsimp only at hy ⊢
    obtain ⟨hf, hL, ha0, haq, ham⟩ := hy
    have HLN := hid hL.len
    have hil : i < lay.length := by rw [HLN.out]; exact hi2
    have hil2 : (i : Int) < (x.n : Int) := by omega
    have hrg := hL.rg _ (lx_mem hil)
    refine go ?_
    refine GoL.q ⟨_, Ex.la (b := g) (l := lay) (i := i) (fun w hw => hw.cells pk) hil, ?_⟩
    refine go ?_
    refine go_if (fun h4 => ?_) (fun h4 => ?_)
    rotate_left
    · have e : (lay, a) = flTo x.t (i + 1) := by
        rw [← hf]
        cases m with
        | zero => rfl
        | succ m => rw [fillI, if_neg (by omega)]
      rw [show lay = (flTo x.t (i + 1)).1 from by rw [← e], show a = (flTo x.t (i + 1)).2 from by rw [← e]]
      refine go ?_
      exact go_again (i + 1) (by omega) (by omega) (by simp [AgreeL, At]) sb
    obtain ⟨z, g1, g2, g3⟩ := some_free (lay := lay) (m := x.n) (by rw [HLN.out]; exact Nat.le_refl _) hil h4
    have haz : ¬ z < a := fun h => g3 (haq z g1 h)
    have hm2 := ham h4
    obtain ⟨m', rfl⟩ : ∃ m', m = m' + 1 := ⟨m - 1, by omega⟩
    rw [fillI, if_pos h4] at hf
    refine go ?_
    refine GoL.cv (fun w' hw => by
      have := contains_v a lay (some ⟨g, 0, none⟩) x.n w' (rdC (hw.cells pk)) (by have := HLN.out; omega)
      rw [HLN.out] at this
      exact this) ?_
    refine go ?_
    refine go_join [(3, .slice (some ⟨g, 0, none⟩) x.n x.n), (12, .int .i64 a), (13, .int .i64 i), (89, .int .i64 x.n), (90, .int .i64 i)] [.cells g (ic (if a ∈ lay then lay else lay.set i a))] ?_ ?_
    · refine go_if (fun h5 => ?_) (fun h5 => ?_)
      · rw [if_neg h5]
        refine go ?_
        refine GoL.sa (b := g) (l := lay) (i := i) (z := a) rp hil ?_
        refine go ?_
        exact xj_n (by simp [AgreeL, At]) sb
      · rw [if_pos (by simpa using h5)]
        refine go ?_
        exact xj_n (by simp [AgreeL, At]) sb
    refine go ?_
    refine go_again (m', if a ∈ lay then lay else lay.set i a, a + 1) ⟨hf, ?_, by simp only; omega, ?_, ?_⟩ (by simp only; omega) (by simp [AgreeL, At]) sb
    · simp only
      split
      · exact hL
      · rename_i h5; exact hL.set hi2 ⟨ha0, by omega⟩ h5
    · intro q q1 q2
      simp only at q2 ⊢
      split
      · rename_i h5
        by_cases e : q = a
        · rw [e]; exact h5
        · exact haq q q1 (by omega)
      · rename_i h5
        by_cases e : q = a
        · have h9 := lx_mem (l := lay.set i a) (i := i) (by simpa using hil)
          rw [lx_set hil] at h9; rw [e]; exact h9
        · have hm := haq q q1 (by omega)
          obtain ⟨j, hj, e2⟩ := List.mem_iff_getElem.1 hm
          have hji : j ≠ i := fun e3 => by
            subst e3; rw [← lx_eq hj] at e2; omega
          rw [← e2, ← lx_eq hj, ← lx_set_ne (v := a) hji]
          exact lx_mem (by simpa using hj)
    · simp only
      split
      · intro _; push_cast at hm2; omega
      · intro h; rw [lx_set hil] at h; omega
end

section
set_option linter.all false
open Go.RowKit

/-- two items exchanged -/
def exch (lay : List Int) (i k : Nat) : List Int := (lay.set i (lx lay k)).set k (lx lay i)
def rowK (i : Nat) : Nat → List (Nat × Nat)
  | 0 => []
  | j + 1 => rowK i j ++ [(i, i + 1 + j)]
def rowsTo (n : Nat) : Nat → List (Nat × Nat)
  | 0 => []
  | i + 1 => rowsTo n i ++ rowK i (n - (i + 1))
/-- what exchanges cost -/
def exC (t : TD) (lay : List Int) (ps : List (Nat × Nat)) : List Int := costL t lay :: ps.map fun p => costL t (exch lay p.1 p.2)
def goodF (t : TD) : Nat → List Int → List Int
  | 0, lay => lay
  | k + 1, lay => if leastK (exC t lay (rowsTo lay.length lay.length)) (exC t lay (rowsTo lay.length lay.length)).length = 0 then lay
    else goodF t k (exch lay (lx ((0, 0) :: rowsTo lay.length lay.length) (leastK (exC t lay (rowsTo lay.length lay.length)) (exC t lay (rowsTo lay.length lay.length)).length)).1 (lx ((0, 0) :: rowsTo lay.length lay.length) (leastK (exC t lay (rowsTo lay.length lay.length)) (exC t lay (rowsTo lay.length lay.length)).length)).2)
def goodL (t : TD) : List Int := goodF t ((costL t (laidL t)).toNat + 1) (laidL t)
theorem leastK_min (l : List Int) : ∀ k, (∀ j, j < k → lx l (leastK l k) ≤ lx l j) ∧ (∀ j, j < leastK l k → lx l (leastK l k) < lx l j)
  | 0 => ⟨fun j hj => by omega, fun j hj => by simp [leastK] at hj⟩
  | k + 1 => by
    obtain ⟨h1, h2⟩ := leastK_min l k
    simp only [leastK]
    split
    · rename_i h
      refine ⟨fun j hj => ?_, fun j hj => ?_⟩
      · by_cases e : j = k
        · rw [e]; exact Int.le_refl _
        · have := h1 j (by omega); omega
      · have := h1 j hj; omega
    · rename_i h
      refine ⟨fun j hj => ?_, h2⟩
      by_cases e : j = k
      · rw [e]; omega
      · exact h1 j (by omega)
theorem rowK_len (i : Nat) : ∀ j, (rowK i j).length = j
  | 0 => rfl
  | j + 1 => by simp [rowK, rowK_len i j]
theorem rowK_mem {i : Nat} {p : Nat × Nat} : ∀ {j}, p ∈ rowK i j ↔ p.1 = i ∧ i < p.2 ∧ p.2 < i + 1 + j
  | 0 => by simp [rowK]; omega
  | j + 1 => by
    rw [rowK, List.mem_append, rowK_mem, List.mem_singleton]
    obtain ⟨a, b⟩ := p
    simp only [Prod.mk.injEq]
    omega
theorem rowsTo_mem {n : Nat} {p : Nat × Nat} : ∀ {i}, p ∈ rowsTo n i ↔ p.1 < i ∧ p.1 < p.2 ∧ p.2 < n
  | 0 => by simp [rowsTo]
  | i + 1 => by
    rw [rowsTo, List.mem_append, rowsTo_mem, rowK_mem]
    omega
theorem rowsTo_len {n : Nat} : ∀ i, (rowsTo n i).length ≤ n * i
  | 0 => by simp [rowsTo]
  | i + 1 => by
    have := rowsTo_len (n := n) i
    rw [rowsTo, List.length_append, rowK_len, Nat.mul_succ]; omega
theorem exch_len (lay : List Int) (i k : Nat) : (exch lay i k).length = lay.length := by simp [exch]
theorem exch_lx {lay : List Int} {i k j : Nat} (hi : i < lay.length) (hk : k < lay.length) : lx (exch lay i k) j = if j = k then lx lay i else if j = i then lx lay k else lx lay j := by
  unfold exch
  by_cases e1 : j = k
  · subst e1; rw [if_pos rfl, lx_set (by simpa using hk)]
  · rw [if_neg e1, lx_set_ne e1]
    by_cases e2 : j = i
    · subst e2; rw [if_pos rfl, lx_set hi]
    · rw [if_neg e2, lx_set_ne e2]
theorem lx_ext {l m : List Int} (hl : l.length = m.length) (h : ∀ i, i < l.length → lx l i = lx m i) : l = m := by
  apply List.ext_getElem hl
  intro i h1 h2
  have := h i h1
  rwa [lx_eq h1, lx_eq h2] at this
theorem exch_back {lay : List Int} {i k : Nat} (hi : i < lay.length) (hk : k < lay.length) : exch (exch lay i k) i k = lay := by
  refine lx_ext (by rw [exch_len, exch_len]) fun j _ => ?_
  rw [exch_lx (by rw [exch_len]; exact hi) (by rw [exch_len]; exact hk), exch_lx hi hk, exch_lx hi hk, exch_lx hi hk]
  by_cases e1 : j = k
  · subst e1
    by_cases e3 : i = j
    · simp [e3]
    · simp [e3]
  · by_cases e2 : j = i
    · subst e2; simp [e1]
    · simp [e1, e2]
/-- a layout of a task -/
structure LayG (n : Nat) (lines : Int) (lay : List Int) : Prop where
  len : lay.length = n
  rg : ∀ a ∈ lay, 0 ≤ a ∧ a < lines * 16
  ds : ∀ i j, i < j → j < n → lx lay i ≠ lx lay j
theorem LayG.at {n : Nat} {lines : Int} {lay : List Int} (h : LayG n lines lay) {i : Nat} (hi : i < n) : 0 ≤ lx lay i ∧ lx lay i < lines * 16 := h.rg _ (lx_mem (by rw [h.len]; exact hi))
theorem LayG.exch {n : Nat} {lines : Int} {lay : List Int} (h : LayG n lines lay) {i k : Nat} (hi : i < n) (hk : k < n) : LayG n lines (exch lay i k) := by
  have hl := h.len
  have hne : ∀ a b, a < n → b < n → a ≠ b → lx lay a ≠ lx lay b := fun a b ha hb hab => by
    rcases Nat.lt_or_ge a b with h1 | h1
    · exact h.ds a b h1 hb
    · exact fun e => h.ds b a (by omega) ha e.symm
  refine ⟨by rw [exch_len, hl], fun a ha => ?_, fun a b hab hb => ?_⟩
  · obtain ⟨j, hj, rfl⟩ := List.mem_iff_getElem.1 ha
    have hj2 : j < n := by rw [exch_len, hl] at hj; exact hj
    rw [← lx_eq hj, exch_lx (by omega) (by omega)]
    split
    · exact h.at hi
    · split
      · exact h.at hk
      · exact h.at hj2
  · have hp : ∀ j, j < n → ∃ q, q < n ∧ q = (if j = k then i else if j = i then k else j) ∧ lx (Go.Proofs.YtigehmghcafblaaGreat.exch lay i k) j = lx lay q := fun j hj => by
      refine ⟨if j = k then i else if j = i then k else j, ?_, rfl, ?_⟩
      · split; exact hi; split; exact hk; exact hj
      · rw [exch_lx (by omega) (by omega)]; split; rfl; split; rfl; rfl
    obtain ⟨p, h1, h2, h3⟩ := hp a (by omega)
    obtain ⟨q, g1, g2, g3⟩ := hp b hb
    rw [h3, g3]
    refine hne p q h1 g1 ?_
    rw [h2, g2]
    split <;> split <;> (try split) <;> (try split) <;> omega
theorem laid_good {t : TD} (ht : t.Ok) : LayG (t.os.length + t.data.toNat) t.lines (laidL t) := by
  obtain ⟨h1, h2⟩ := laidL_ok ht
  exact ⟨h1.len, h2, fun i j hij hj => h1.ds i j hij hj (h2 _ (lx_mem (by rw [h1.len]; omega))).1⟩
theorem exC_len (t : TD) (lay : List Int) (ps : List (Nat × Nat)) : (exC t lay ps).length = ps.length + 1 := by simp [exC]
theorem exC_at {t : TD} {lay : List Int} {ps : List (Nat × Nat)} {j : Nat} (hj : j < ps.length) : lx (exC t lay ps) (j + 1) = costL t (exch lay (lx ps j).1 (lx ps j).2) := by
  have : lx (exC t lay ps) (j + 1) = lx (ps.map fun p => costL t (exch lay p.1 p.2)) j := by simp [exC, lx]
  rw [this, lx_map hj]
/-- one step of Good makes the layout better -/
theorem good_step {t : TD} {n : Nat} {lay : List Int} (h : LayG n t.lines lay) (ha : ¬ leastK (exC t lay (rowsTo lay.length lay.length)) (exC t lay (rowsTo lay.length lay.length)).length = 0) :
    let a := leastK (exC t lay (rowsTo lay.length lay.length)) (exC t lay (rowsTo lay.length lay.length)).length
    let p := lx ((0, 0) :: rowsTo lay.length lay.length) a
    a < (exC t lay (rowsTo lay.length lay.length)).length ∧ p.1 < p.2 ∧ p.2 < n ∧ lx (exC t lay (rowsTo lay.length lay.length)) a = costL t (exch lay p.1 p.2) ∧ costL t (exch lay p.1 p.2) < costL t lay := by
  intro a p
  have h0 : 0 < (exC t lay (rowsTo lay.length lay.length)).length := by rw [exC_len]; omega
  have h1 : a < (exC t lay (rowsTo lay.length lay.length)).length := leastK_lt _ h0
  have h1' := h1
  rw [exC_len] at h1'
  obtain ⟨j, hj⟩ : ∃ j, a = j + 1 := ⟨a - 1, by have : ¬ a = 0 := ha; omega⟩
  have hjl : j < (rowsTo lay.length lay.length).length := by omega
  have hp : p = lx (rowsTo lay.length lay.length) j := by show lx ((0, 0) :: rowsTo lay.length lay.length) a = _; rw [hj]; simp [lx]
  have hm := rowsTo_mem.1 (lx_mem hjl)
  have hc : lx (exC t lay (rowsTo lay.length lay.length)) a = costL t (exch lay p.1 p.2) := by rw [hj, exC_at hjl, hp]
  have hlt := (leastK_min (exC t lay (rowsTo lay.length lay.length)) (exC t lay (rowsTo lay.length lay.length)).length).2 0 (by have : ¬ a = 0 := ha; show 0 < a; omega)
  have hz : lx (exC t lay (rowsTo lay.length lay.length)) 0 = costL t lay := by simp [exC, lx]
  rw [hz] at hlt
  have hlt' : lx (exC t lay (rowsTo lay.length lay.length)) a < costL t lay := hlt
  rw [hc] at hlt'
  rw [hp] at hlt' hc ⊢
  exact ⟨h1, hm.2.1, by rw [← h.len]; exact hm.2.2, hc, hlt'⟩
end


end Go.Proofs.YtigehmghcafblaaGreat
