/- LayoutGoods. -/
import Derived.Test.YtigehmghcafblaaGreatlzT8
import Derived.Test.YtigehmghcafblaaGreatlzR5
set_option linter.all false
namespace Go.Proofs.YtigehmghcafblaaGreat

section
set_option linter.all false
set_option pp.maxSteps 100000
set_option maxRecDepth 100000
set_option maxHeartbeats 4000000
open Go.RowKit

theorem cmpLs_drop {x y : List Int} : ∀ i, i ≤ x.length → x.length = y.length → (∀ j, j < i → lx x j = lx y j) → cmpLs x y = cmpLs (x.drop i) (y.drop i)
  | 0, _, _, _ => rfl
  | i + 1, hi, hl, h => by
    rw [cmpLs_drop i (by omega) hl (fun j hj => h j (by omega)), drop_lx (l := x) (i := i) (by omega), drop_lx (l := y) (i := i) (by omega)]
    have := h i (by omega)
    rw [cmpLs, if_pos (by rw [this]; simp [cmpI])]
theorem cmpLs_at {x y : List Int} {i : Nat} (hi : i < x.length) (hl : x.length = y.length) (h : ∀ j, j < i → lx x j = lx y j) (hne : ¬ lx x i = lx y i) : decide (cmpLs x y < 0) = decide (lx x i < lx y i) := by
  rw [cmpLs_drop i (by omega) hl h, drop_lx (l := x) hi, drop_lx (l := y) (by omega)]
  simp only [cmpLs, cmpI]
  rcases Int.lt_trichotomy (lx x i) (lx y i) with g | g | g
  · simp [g]
  · exact absurd g hne
  · have : ¬ lx x i < lx y i := by omega
    simp [g, this]
theorem rless_v (x y : List Int) (a b : Option Addr) (c d : Nat) (w : World) (hx : Rd icell 1 w a x) (hy : Rd icell 1 w b y) (hl : x.length = y.length) (hn : x.length ≤ 40) :
    Calls Tryz.prog 110 #[.slice a x.length c, .slice b y.length d] w (fun e w' => e = .returned (.bool (decide (cmpLs x y < 0))) ∧ Below w.heap.size w w') := by
  have hl2 := hid hl
  have hny : y.length ≤ 40 := by omega
  clear hl
  refine go_in Tryz.func110 rfl Tryz.ntmps110 [] [] (Mem.start _) ?_
  refine go ?_
  refine go_loop (X := Nat) (fun k => k ≤ x.length ∧ ∀ j, j < k → lx x j = lx y j) (fun k => x.length - k) (fun k => [(5, .int .i64 k)]) (fun _ => []) 0 [0, 1] ⟨Nat.zero_le _, fun j hj => by omega⟩ (by simp [AgreeL, At]) sb (fun k hk => ?_)
  obtain ⟨hk, hall⟩ := hk
  have hall2 := hid hall
  clear hall
  by_cases hk2 : k < x.length
  · have hky : k < y.length := by have := hl2.out; omega
    refine go ?_
    refine go_if (fun h => ?_) (fun h => ?_)
    · have hne : ¬ lx x k = lx y k := by simpa using h
      have hR := hid (cmpLs_at hk2 hl2.out hall2.out hne)
      clear h hne
      refine go ?_
      refine ev1 ?_
      rw [hR.out]
    · have he : lx x k = lx y k := by simpa using h
      have he2 := hid he
      clear h he
      refine go ?_
      exact go_again (k + 1) ⟨hk2, fun j hj => by
        by_cases e : j = k
        · rw [e]; exact he2.out
        · exact hall2.out j (by omega)⟩ (by omega) (by simp [AgreeL, At]) sb
  · have hR := hid (show decide (cmpLs x y < 0) = false by
      have e : x = y := lx_ext hl2.out fun i hi => hall2.out i (by omega)
      rw [e, cmpLs_self]; rfl)
    refine go ?_
    refine ev1 ?_
    rw [hR.out]
theorem Mem.rd0 {w0 w : World} {Bs : List Nat} {H : List En} (h : Mem w0 Bs H w) : Mem w0 Bs (.rd icell 1 none [] :: H) w := by
  obtain ⟨h0, hr⟩ := h
  exact ⟨h0, fun _ => False, fun _ h => h.elim, ⟨fun _ h => absurd rfl h, .inl rfl⟩, hr.mono fun b hb => ⟨hb, fun h => h⟩⟩
theorem rbest_v {w0 : World} (t : TD) (ht : t.Ok) (hn : t.Len) (hT : t.At w0) : ∀ k (G : List En) (s : List Int) (a : Option Addr) (c : Nat) (w : World), s.length + k = t.os.length + t.data.toNat → Pre t.lines s → Mem w0 [] (.rd icell 1 a s :: G) w →
    Calls Tryz.prog 71 #[.agg #[.slice t.ao t.os.length t.co, .int .i64 t.data, .int .i64 t.lines, .slice t.ap t.ps.length t.cp], .slice a s.length c] w (fun e w' => ∃ q : Option Addr × Nat, e = .returned (.slice q.1 (rB t k s).length q.2) ∧ Mem w0 [] (.rd icell 1 q.1 (rB t k s) :: G) w')
  | 0, G, s, a, c, w, hk, hs, hm => by
    have hd1 := ht.d1
    have hn1 := ht.n1
    have hs2 := hid hs
    have hit := hid (show (s.length : Int) = (t.os.length : Int) + t.data by omega)
    clear hs hk
    refine go_in0 Tryz.func71 rfl Tryz.ntmps71 hm ?_
    refine go ?_
    refine GoL.a (fun b2 => ?_)
    refine go ?_
    refine GoL.cv (fun w' hw => items_ref t w' hn hd1 hn1.2) ?_
    rw [← hit.out]
    refine go ?_
    exact end1 (fun w' hw => ⟨(a, c), rfl, hw.sub (Sub.cons (.there .here) (Sub.tl (Sub.refl _)))⟩)
  | k + 1, G, s, a, c, w, hk, hs, hm => by
    have ih := rbest_v (w0 := w0) t ht hn hT k
    have hd1 := ht.d1
    have hn1 := ht.n1
    have hl1 := ht.l1
    have hs2 := hid hs
    have hs40 : s.length ≤ 40 := by omega
    have hk2 := hid hk
    have hit : ¬ (s.length : Int) = (t.os.length : Int) + t.data := by omega
    clear hs hk
    refine go_in0 Tryz.func71 rfl Tryz.ntmps71 hm ?_
    refine go ?_
    refine GoL.a (fun b2 => ?_)
    refine go ?_
    refine GoL.cv (fun w' hw => items_ref t w' hn hd1 hn1.2) ?_
    refine go ?_
    refine go_if (fun h => ?_) (fun h => ?_)
    · exact absurd h (by simpa using hit)
    refine go ?_
    refine GoC.mem (fun w hw => Mem.rd0 hw) ?_
    refine go_loop (X := Nat × Option Addr × Nat) (fun y => y.1 ≤ 16) (fun y => 16 - y.1) (fun y => [(6, .int .i64 y.1), (5, .slice y.2.1 (rTo t k s y.1).length y.2.2)]) (fun y => .rd icell 1 y.2.1 (rTo t k s y.1) :: .cells b2 [.slice t.ao t.os.length t.co, .int .i64 t.data, .int .i64 t.lines, .slice t.ap t.ps.length t.cp] :: .rd icell 1 a s :: G) (0, none, 0) [1, 2, 4] (Nat.zero_le _) (by simp [AgreeL, At, rTo]) (Sub.refl _) (fun y hy => ?_)
    obtain ⟨p, aO, cO⟩ := y
    dsimp only at hy ⊢
    refine go ?_
    refine go_if (fun h => ?_) (fun h => ?_)
    rotate_left
    · have hp9 : p = 16 := by omega
      subst hp9
      have hR := hid (rTo_eq t k s)
      rw [hR.out]
      refine go ?_
      refine end1 (fun w' hw => ⟨(aO, cO), rfl, ?_⟩)
      exact hw.sub (Sub.cons .here (Sub.tl (Sub.tl (Sub.refl _))))
    have hp : p < 16 := by omega
    have hOI := hid (rTo_inv (t := t) (k := k) (s := s) hl1.2 hk2.out hs2.out p)
    have hstep := hid (show rTo t k s (p + 1) = rStep t (rB t k) s (rTo t k s p) p from rfl)
    refine go ?_
    refine GoL.cv (fun w' hw => rfree_v t s a c p w' hn hl1 (hw.rd (l := s) pk) hs40 hp) ?_
    refine go ?_
    refine go_if (fun h2 => ?_) (fun h2 => ?_)
    · have hR := hid (hstep.out.trans (by unfold rStep; rw [if_pos (by simpa using h2)]))
      clear h2 hstep
      refine go ?_
      exact go_again (p + 1, aO, cO) hp (by simp only; omega) (by rw [hR.out]; simp [AgreeL, At]) (by rw [hR.out]; exact Sub.refl _)
    have hf0 : 0 ≤ freeP s t.lines p := by omega
    have hR := hid (show rTo t k s (p + 1) = if pickB t (rB t k (s ++ [freeP s t.lines p])) (rTo t k s p) = true then rB t k (s ++ [freeP s t.lines p]) else rTo t k s p by
      rw [hstep.out]; unfold rStep; rw [if_neg (by omega)])
    have hPre := hid (Pre_snoc hl1.2 hs2.out hf0)
    have hxI := hid (rB_inv (t := t) hl1.2 (n := t.os.length + t.data.toNat) k (s ++ [freeP s t.lines p]) (by have := hk2.out; simp; omega) hPre.out)
    have hlen2 := hid (show (s ++ [freeP s t.lines p]).length + k = t.os.length + t.data.toNat by have := hk2.out; simp; omega)
    generalize hO : rTo t k s p = O at *
    clear hstep h2 hO
    generalize freeP s t.lines p = f at *
    refine go ?_
    refine D.e0 [] [] (fun X F => Ef.lit (f := icell) (m := 1) (e := 3) [] (fun _ => rfl) rfl) ?_
    refine go ?_
    refine D.e0 [] [1] (fun X F => Ef.appU (f := icell) (m := 1) (e := 3) (l := []) (l2 := s) elI (fun _ => rfl) icell_one (by simp only [List.length_nil]; omega) Pick.here (fun w hw => hw.rd (l := s) pk)) ?_
    refine go ?_
    refine D.e0 [] [] (fun X F => Ef.lit (f := icell) (m := 1) (e := 3) [f] (fun _ => rfl) rfl) ?_
    refine D.e0 [] [3, 5] (fun X F => Ef.appT (f := icell) (m := 1) (e := 3) (e2 := 3) (l := s) (l2 := [f]) elI (fun _ => rfl) icell_one (by simp only [List.length_cons, List.length_nil]; omega) Pick.here Pick.here) ?_
    refine D.nil [(6, fun X => .sl icell 1 3 (s ++ [f]) (X 6))] (fun X => GoL.slo fun a7 c7 hv => ?_) (hchk := by show chkDD _ _ 0 [6] = true; decide +kernel)
    rw [show (0 + 1 + 1 + 1 + 1 + 1 + 1 : Nat) = 6 from rfl, hv]
    clear hv
    refine GoL.mem (fun w hw => hw.o2r (f := icell) (l := s ++ [f]) .here (fun _ => rfl)) ?_
    refine GoL.cm (val := fun q : Option Addr × Nat => .slice q.1 (rB t k (s ++ [f])).length q.2) (H' := fun q => .rd icell 1 q.1 (rB t k (s ++ [f])) :: .rd icell 1 aO O :: .cells b2 [.slice t.ao t.os.length t.co, .int .i64 t.data, .int .i64 t.lines, .slice t.ap t.ps.length t.cp] :: .rd icell 1 a s :: G) (fun w hw => ih _ (s ++ [f]) a7 c7 w hlen2.out hPre.out hw) (fun q => ?_)
    obtain ⟨aX, cX⟩ := q
    dsimp only
    generalize rB t k (s ++ [f]) = x at *
    rcases hxI.out with hx0 | ⟨hxP, hxl⟩
    · subst hx0
      have hR2 := hid (hR.out.trans (if_neg (by simp [pickB])))
      refine go ?_
      exact go_again (p + 1, aO, cO) hp (by simp only; omega) (by rw [hR2.out]; simp [AgreeL, At]) (by rw [hR2.out]; exact Sub.tl (Sub.refl _))
    have hxpos : 0 < x.length := by omega
    have hxne : x ≠ [] := fun e => by rw [e] at hxpos; exact absurd hxpos (by decide)
    rcases hOI.out with hO0 | ⟨hOP, hOl⟩
    · have hR2 := hid (hR.out.trans (if_pos (by simp [pickB, hxne, hO0])))
      have hO9 : ((O.length : Int) == 0) = true := by rw [hO0]; rfl
      have hO8 := hid hO0
      clear hxne hO0 hOI hxI hxl hxP
      refine go ?_
      exact go_again (p + 1, aX, cX) hp (by simp only; omega) (by rw [hR2.out]; simp [AgreeL, At]) (by rw [hR2.out]; exact Sub.cons .here (Sub.tl (Sub.refl _)))
    have hOpos : 0 < O.length := by omega
    have hOne : O ≠ [] := fun e => by rw [e] at hOpos; exact absurd hOpos (by decide)
    have hOb : ((O.length : Int) == 0) = false := by simp; exact hOne
    have hLx := hid (Pre_lay hxP hxl)
    have hLO := hid (Pre_lay hOP hOl)
    have hxO := hid (show x.length = O.length by omega)
    have hx40 := hid (show x.length ≤ 40 by omega)
    have hpick : pickB t x O = (decide (costL t x < costL t O) || (decide (costL t x = costL t O) && decide (cmpLs x O < 0))) := by simp [pickB, hxne, hOne]
    rw [hpick] at hR
    clear hxP hxl hOP hOl hxne hOne hpick hxI hOI
    rcases Int.lt_trichotomy (costL t x) (costL t O) with hc | hc | hc
    · have hR2 := hid (hR.out.trans (if_pos (by simp [hc])))
      refine go ?_
      refine D.cv (fun F w' hw => rcost_v t ht x aX cX w' hn (hT.old hw) (hw.rd (l := x) pk) hLx.out) ?_
      refine go ?_
      refine D.cv (fun F w' hw => rcost_v t ht O aO cO w' hn (hT.old hw) (hw.rd (l := O) pk) hLO.out) ?_
      refine go ?_
      exact go_again (p + 1, aX, cX) hp (by simp only; omega) (by rw [hR2.out]; simp [AgreeL, At]) (by rw [hR2.out]; exact Sub.cons .here (Sub.tl (Sub.refl _)))
    · have hc1 : ¬ costL t x < costL t O := by omega
      have hc2 : (costL t x == costL t O) = true := by simpa using hc
      have hR2 := hid (hR.out.trans (by rw [show (decide (costL t x < costL t O) || (decide (costL t x = costL t O) && decide (cmpLs x O < 0))) = decide (cmpLs x O < 0) by simp [hc]]))
      clear hc
      refine go ?_
      refine D.cv (fun F w' hw => rcost_v t ht x aX cX w' hn (hT.old hw) (hw.rd (l := x) pk) hLx.out) ?_
      refine go ?_
      refine D.cv (fun F w' hw => rcost_v t ht O aO cO w' hn (hT.old hw) (hw.rd (l := O) pk) hLO.out) ?_
      refine go ?_
      refine D.cv (fun F w' hw => rcost_v t ht x aX cX w' hn (hT.old hw) (hw.rd (l := x) pk) hLx.out) ?_
      refine go ?_
      refine D.cv (fun F w' hw => rcost_v t ht O aO cO w' hn (hT.old hw) (hw.rd (l := O) pk) hLO.out) ?_
      refine go ?_
      refine GoL.cv (fun w' hw => rless_v x O aX aO cX cO w' (hw.rd (l := x) pk) (hw.rd (l := O) pk) hxO.out hx40.out) ?_
      by_cases h9 : cmpLs x O < 0
      · rw [decide_eq_true h9] at hR2 ⊢
        have hR3 := hid (hR2.out.trans (if_pos rfl))
        refine go ?_
        exact go_again (p + 1, aX, cX) hp (by simp only; omega) (by rw [hR3.out]; simp [AgreeL, At]) (by rw [hR3.out]; exact Sub.cons .here (Sub.tl (Sub.refl _)))
      · rw [decide_eq_false h9] at hR2 ⊢
        have hR3 := hid (hR2.out.trans (if_neg (by decide)))
        refine go ?_
        exact go_again (p + 1, aO, cO) hp (by simp only; omega) (by rw [hR3.out]; simp [AgreeL, At]) (by rw [hR3.out]; exact Sub.tl (Sub.refl _))
    · have hR2 := hid (hR.out.trans (if_neg (by simp; omega)))
      have hc1 : ¬ costL t x < costL t O := by omega
      have hc2 : (costL t x == costL t O) = false := by simp; omega
      clear hc
      refine go ?_
      refine D.cv (fun F w' hw => rcost_v t ht x aX cX w' hn (hT.old hw) (hw.rd (l := x) pk) hLx.out) ?_
      refine go ?_
      refine D.cv (fun F w' hw => rcost_v t ht O aO cO w' hn (hT.old hw) (hw.rd (l := O) pk) hLO.out) ?_
      refine go ?_
      refine D.cv (fun F w' hw => rcost_v t ht x aX cX w' hn (hT.old hw) (hw.rd (l := x) pk) hLx.out) ?_
      refine go ?_
      refine D.cv (fun F w' hw => rcost_v t ht O aO cO w' hn (hT.old hw) (hw.rd (l := O) pk) hLO.out) ?_
      refine go ?_
      exact go_again (p + 1, aO, cO) hp (by simp only; omega) (by rw [hR2.out]; simp [AgreeL, At]) (by rw [hR2.out]; exact Sub.tl (Sub.refl _))
theorem rBest_bad (t : TD) (w : World) (hn : t.Len) (hT : t.At w) (he : ¬ bestEr t = 0) :
    Calls Tryz.prog 25 #[.agg #[.slice t.ao t.os.length t.co, .int .i64 t.data, .int .i64 t.lines, .slice t.ap t.ps.length t.cp]] w (fun e' w' => e' = .returned (.tuple #[.slice none 0 0, .int .i64 (bestEr t)]) ∧ Below w.heap.size w w') := by
  obtain ⟨⟨p, i, e⟩, hr⟩ : ∃ q : Int × Int × Int, q = chkL t := ⟨_, rfl⟩
  refine go_in Tryz.func25 rfl Tryz.ntmps25 [] [] (Mem.start _) ?_
  refine go ?_
  refine GoL.a (fun b1 => ?_)
  refine go ?_
  refine GoL.cv (fun w' hw => rcheck_v t p i e w' (hT.old hw) hn hr.symm) ?_
  by_cases h0 : e = 0
  · subst h0
    have ht := chkL_ok hr.symm
    have hE : bestEr t = if 4 < (t.os.length : Int) + t.data then 3 else 0 := by rw [bestEr, ← hr, if_neg (by simp)]
    have h4 : 4 < (t.os.length : Int) + t.data := Classical.byContradiction fun h => he (by rw [hE, if_neg h])
    rw [if_pos h4] at hE
    have HE := hid hE
    clear hE he
    refine go ?_
    refine GoL.cv (fun w' hw => items_ref t w' hn ht.d1 ht.n1.2) ?_
    refine go ?_
    exact ev2 ⟨rfl, by rw [HE.out]⟩
  · have HE := hid (show bestEr t = e by rw [bestEr, ← hr, if_pos h0])
    have e1 : (e == 0) = false := by simpa using h0
    have e2 : (e != 0) = true := by simpa using h0
    clear he h0
    refine go ?_
    exact ev2 ⟨rfl, by rw [HE.out]⟩
theorem rBest_ok (t : TD) (w : World) (hn : t.Len) (hT : t.At w) (he : bestEr t = 0) :
    Calls Tryz.prog 25 #[.agg #[.slice t.ao t.os.length t.co, .int .i64 t.data, .int .i64 t.lines, .slice t.ap t.ps.length t.cp]] w (Ret (fun q : Option Addr × Nat => .tuple #[.slice q.1 (bestL t).length q.2, .int .i64 0]) (fun q => [.rd icell 1 q.1 (bestL t)]) w) := by
  obtain ⟨ht, hf, p, i, hr⟩ := bestEr_ok he
  have hn1 := ht.n1
  have hl1 := ht.l1
  have hd1 := ht.d1
  have h4 : ¬ 4 < (t.os.length : Int) + t.data := by omega
  have hRB := hid (rB_best (t := t))
  have hPre := hid (show Pre t.lines [0] from ⟨fun a ha => by
    obtain rfl : a = 0 := by simpa using ha
    omega, by simp, by simp [lx]⟩)
  refine go_in Tryz.func25 rfl Tryz.ntmps25 [] [] (Mem.start _) ?_
  refine go ?_
  refine GoL.a (fun b1 => ?_)
  refine go ?_
  refine GoL.cv (fun w' hw => rcheck_v t p i 0 w' (hT.old hw) hn hr) ?_
  refine go ?_
  refine GoL.cv (fun w' hw => items_ref t w' hn ht.d1 ht.n1.2) ?_
  refine go ?_
  refine GoL.sl (Ef.lit (f := icell) (m := 1) (e := 3) [0] (fun _ => rfl) rfl) (fun a5 c5 => ?_)
  refine GoL.mem (fun w hw => hw.o2r (f := icell) (l := [(0 : Int)]) .here (fun _ => rfl)) ?_
  refine GoL.cm (val := fun q : Option Addr × Nat => .slice q.1 (rB t (t.os.length + t.data.toNat - 1) [0]).length q.2) (H' := fun q => [.rd icell 1 q.1 (rB t (t.os.length + t.data.toNat - 1) [0]), .cells b1 [.slice t.ao t.os.length t.co, .int .i64 t.data, .int .i64 t.lines, .slice t.ap t.ps.length t.cp]]) (fun w1 hw => rbest_v t ht hn hT (t.os.length + t.data.toNat - 1) _ [0] a5 c5 w1 (by simp; omega) hPre.out hw) (fun q => ?_)
  rw [hRB.out]
  refine go ?_
  exact end2 (fun w' hw => ⟨q, rfl, hw.done sb⟩)
end

section
set_option linter.all false
set_option pp.maxSteps 100000
set_option maxRecDepth 100000
set_option maxHeartbeats 4000000
open Go.RowKit

theorem ints_eq (l : List Int) (a a2 : Option Addr) (c c2 : Nat) (w : World) (h1 : Rd icell 1 w a l) (h2 : Rd icell 1 w a2 l) (h3 : l.length ≤ 9223372036854775807) : Calls Tryz.prog 23 #[.slice a l.length c, .slice a2 l.length c2] w (fun e w' => e = .returned (.bool true) ∧ Below w.heap.size w w') := by
  have := Ints_v l l a a2 c c2 w h1 h2 h3 h3
  rw [decide_eq_true rfl] at this
  exact this
theorem goods_walk (t : TD) (w : World) (hn : t.Len) (hT : t.At w) :
    Calls Tryz.prog 5 #[.agg #[.slice t.ao t.os.length t.co, .int .i64 t.data, .int .i64 t.lines, .slice t.ap t.ps.length t.cp]] w (fun e w' => e = .returned (.bool true) ∧ Below w.heap.size w w') := by
  obtain ⟨⟨p, i, e⟩, hr⟩ : ∃ q : Int × Int × Int, q = chkL t := ⟨_, rfl⟩
  have hBE : ¬ e = 0 → ¬ bestEr t = 0 := fun h => by unfold bestEr; rw [← hr, if_pos h]; exact h
  have hR := hid hr
  clear hr
  refine go_in Tryz.func5 rfl Tryz.ntmps5 [] [] (Mem.start _) ?_
  refine go ?_
  refine GoL.a (fun b1 => ?_)
  refine go ?_
  by_cases he : e = 0
  rotate_left
  · refine GoL.cv (fun w' hw => Good_bad t p i e w' hn (hT.old hw) hR.out.symm he) ?_
    refine go ?_
    refine GoL.cv (fun w' hw => rGood_bad t p i e w' hn (hT.old hw) hR.out.symm he) ?_
    have hB := hBE he
    clear he hBE
    refine go ?_
    refine GoL.cv (fun w' hw => ints_eq [] none none 0 0 w' (.inl rfl) (.inl rfl) (by decide)) ?_
    refine go ?_
    refine GoL.cv (fun w' hw => Best_bad t w' hn (hT.old hw) hB) ?_
    refine go ?_
    refine GoL.cv (fun w' hw => rBest_bad t w' hn (hT.old hw) hB) ?_
    clear hB
    refine go ?_
    refine GoL.cv (fun w' hw => ints_eq [] none none 0 0 w' (.inl rfl) (.inl rfl) (by decide)) ?_
    refine go ?_
    refine GoL.cv (fun w' hw => awake_v w') ?_
    refine go ?_
    exact ev1 rfl
  subst he
  have ht := chkL_ok hR.out.symm
  have hgl := hid (show (goodL t).length ≤ 40 by have := (good_res ht).2.1; have := ht.n1; have := ht.d1; omega)
  refine GoL.c (fun w' hw => good_at t w' hn (hT.old hw) ht) (fun g => ?_)
  refine go ?_
  refine GoL.c (fun w' hw => rGood_ok t ht w' hn (hT.old hw)) (fun q => ?_)
  refine go ?_
  refine GoL.cv (fun w' hw => ints_eq (goodL t) _ _ _ _ w' (rdC (hw.cells pk)) (hw.rd pk) (by have := hgl.out; omega)) ?_
  refine go ?_
  by_cases hB : bestEr t = 0
  rotate_left
  · refine GoL.cv (fun w' hw => Best_bad t w' hn (hT.old hw) hB) ?_
    refine go ?_
    refine GoL.cv (fun w' hw => rBest_bad t w' hn (hT.old hw) hB) ?_
    clear hB
    refine go ?_
    refine GoL.cv (fun w' hw => ints_eq [] none none 0 0 w' (.inl rfl) (.inl rfl) (by decide)) ?_
    refine go ?_
    refine GoL.cv (fun w' hw => awake_v w') ?_
    refine go ?_
    exact ev1 rfl
  have hbl := hid (show (bestL t).length ≤ 40 by have := (best_res hB).2.2.1; have := ht.n1; have := ht.d1; omega)
  refine GoL.c (fun w' hw => Best_ok t w' hn (hT.old hw) hB) (fun q2 => ?_)
  refine go ?_
  refine GoL.c (fun w' hw => rBest_ok t w' hn (hT.old hw) hB) (fun q3 => ?_)
  refine go ?_
  refine GoL.cv (fun w' hw => ints_eq (bestL t) q2.1 q3.1 q2.2 q3.2 w' (hw.rd pk) (hw.rd pk) (by have := hbl.out; omega)) ?_
  refine go ?_
  refine GoL.cv (fun w' hw => awake_v w') ?_
  refine go ?_
  exact ev1 rfl
end


end Go.Proofs.YtigehmghcafblaaGreat
