/- layout: the value of what is between two events (Accept's closure). -/
import Derived.Test.YtigehmghcafblaaGreatlzY2
import Derived.Shelf.SlSortCmp.WholeK
set_option linter.all false
namespace Go.Proofs.YtigehmghcafblaaGreat

section
set_option linter.all false
set_option pp.maxSteps 100000
set_option maxRecDepth 100000
set_option maxHeartbeats 4000000
open Go.RowKit

def aftI (t a : Int) : Int := t + 1 + (a - (t + 1)) % 16
theorem rAfter_v (t a : Int) (w : World) (ht : 0 ≤ t ∧ t ≤ 1000000) (ha : 0 ≤ a ∧ a ≤ 1000000) : Calls Tryz.prog 123 #[.int .i64 t, .int .i64 a] w (fun e w' => e = .returned (.int .i64 (aftI t a)) ∧ Below w.heap.size w w') := by
  refine go_in Tryz.func123 rfl Tryz.ntmps123 [] [] (Mem.start _) ?_
  refine go ?_
  refine go_loop (X := Int) (fun y => t + 1 ≤ y ∧ y ≤ aftI t a) (fun y => (aftI t a - y).toNat) (fun y => [(5, .int .i64 y)]) (fun _ => []) (t + 1) [1] ⟨Int.le_refl _, by unfold aftI; omega⟩ (by simp [AgreeL, At]) sb (fun y hy => ?_)
  have hb : aftI t a ≤ t + 16 ∧ (aftI t a - a) % 16 = 0 := by unfold aftI; omega
  have hy0 : 0 ≤ y := by omega
  have hy1 : y ≤ 1000016 := by omega
  refine go ?_
  refine go_if (fun h => ?_) (fun h => ?_)
  · refine go ?_
    exact go_again (y + 1) ⟨by omega, by
      by_cases e : y = aftI t a
      · rw [e] at h; exact absurd h (by omega)
      · omega⟩ (by omega) (by simp [AgreeL, At]) sb
  · refine go ?_
    refine ev1 ?_
    have : y = aftI t a := by omega
    rw [this]
@[simp] def fcell (x : Bool) : List Value := [.bool x]
theorem fcell_one (x : Bool) : ∀ u ∈ fcell x, u.oneCell' = true := by intro u hu; simp at hu; subst hu; rfl
theorem elB : ElemT Tryz.prog 92 4 1 1 := ElemT.mk' (z := .bool false) Tryz.underlying92 (by kernel_rfl) rfl
def evI (l : List Evt) : List Int := l.map fun v => v.item
def evA (l : List Evt) : List Bool := l.map fun v => decide (v.wait = 12)
theorem evI_len (l : List Evt) : (evI l).length = l.length := by simp [evI]
theorem evA_len (l : List Evt) : (evA l).length = l.length := by simp [evA]
theorem evI_app (l : List Evt) (x : Int) (n : Int) : evI l ++ [x] = evI (l ++ [⟨x, n⟩]) := by simp [evI]
theorem evA_app0 (l : List Evt) (x : Int) : evA l ++ [false] = evA (l ++ [⟨x, 0⟩]) := by simp [evA]
theorem evA_app1 (l : List Evt) (x : Int) : evA l ++ [true] = evA (l ++ [⟨x, 12⟩]) := by simp [evA]
theorem revents_v (t : TD) (p : PthR) (w : World) (hn : t.Len) (hT : t.At w) (ho : t.os.length ≤ 24) (hp : Rd icell 1 w p.a p.os) (hpl : 1 ≤ p.os.length ∧ p.os.length ≤ 24) (hpb : ∀ i ∈ p.os, 0 ≤ i ∧ i < (t.os.length : Int))
    (hfr : ∀ i ∈ p.os, (fromB (lx t.os i.toNat).op = true → 0 ≤ (lx t.os i.toNat).fr ∧ (lx t.os i.toNat).fr ≤ 16) ∧ (toB (lx t.os i.toNat).op = true → 0 ≤ (lx t.os i.toNat).tt ∧ (lx t.os i.toNat).tt ≤ 16)) :
    Calls Tryz.prog 51 #[.agg #[.slice t.ao t.os.length t.co, .int .i64 t.data, .int .i64 t.lines, .slice t.ap t.ps.length t.cp], .agg #[.slice p.a p.os.length p.c, .int .i64 p.cnt]] w
      (Ret (fun q : (Option Addr × Nat) × (Option Addr × Nat) => .tuple #[.slice q.1.1 (evI (pathE t.os p.os)).length q.1.2, .slice q.2.1 (evA (pathE t.os p.os)).length q.2.2]) (fun q => [.own icell 1 3 (.slice q.1.1 (evI (pathE t.os p.os)).length q.1.2) (evI (pathE t.os p.os)), .own fcell 1 4 (.slice q.2.1 (evA (pathE t.os p.os)).length q.2.2) (evA (pathE t.os p.os))]) w) := by
  have hTo := hT.o
  refine go_in Tryz.func51 rfl Tryz.ntmps51 [] [] (Mem.start _) ?_
  refine go ?_
  refine GoL.a (fun b2 => ?_)
  refine go ?_
  refine GoL.a (fun b3 => ?_)
  refine go ?_
  refine GoC.mem (fun w hw => Mem.own0 icell 1 3 (Mem.own0 fcell 1 4 hw)) ?_
  refine go_loop (X := Nat × (Option Addr × Nat) × (Option Addr × Nat)) (fun y => y.1 < p.os.length) (fun y => p.os.length - y.1) (fun y => [(8, .int .i64 y.1), (6, .slice y.2.1.1 (evI (pathTo t.os p.os y.1)).length y.2.1.2), (7, .slice y.2.2.1 (evA (pathTo t.os p.os y.1)).length y.2.2.2)])
    (fun y => [.cells b3 [.slice p.a p.os.length p.c, .int .i64 p.cnt], .cells b2 [.slice t.ao t.os.length t.co, .int .i64 t.data, .int .i64 t.lines, .slice t.ap t.ps.length t.cp], .own icell 1 3 (.slice y.2.1.1 (evI (pathTo t.os p.os y.1)).length y.2.1.2) (evI (pathTo t.os p.os y.1)), .own fcell 1 4 (.slice y.2.2.1 (evA (pathTo t.os p.os y.1)).length y.2.2.2) (evA (pathTo t.os p.os y.1))]) (0, (none, 0), (none, 0)) [2, 3, 4, 5] (by simp only; omega) (by simp [AgreeL, At, pathTo, evI, evA]) (by simp only [pathTo, evI, evA, List.map_nil]; exact sb) (fun y hy => ?_)
  obtain ⟨i, ⟨a1, c1⟩, a2, c2⟩ := y
  dsimp only at hy ⊢
  have hlen := pathTo_len t.os p.os i
  have hI := hid (evI_len (pathTo t.os p.os i))
  have hA := hid (evA_len (pathTo t.os p.os i))
  have hz := hpb _ (lx_mem hy)
  have hfr0 := hfr _ (lx_mem hy)
  refine go ?_
  refine GoL.sl (Ef.lit (f := icell) (m := 1) (e := 3) [lx p.os i] (fun _ => rfl) rfl) (fun a3 c3 => ?_)
  refine go ?_
  refine GoL.sl (Ef.app (f := icell) (l := evI (pathTo t.os p.os i)) (l2 := [lx p.os i]) (v := .slice a1 (evI (pathTo t.os p.os i)).length c1) elI (fun _ => rfl) icell_one (by have := hI.out; simp only [List.length_cons, List.length_nil]; omega) pk (fun w hw => hw.ownRd (l := [lx p.os i]) pk)) (fun a4 c4 => ?_)
  rw [evI_app _ _ 0]
  refine go ?_
  refine GoL.sl (Ef.lit (f := fcell) (m := 1) (e := 4) [false] (fun _ => rfl) rfl) (fun a5 c5 => ?_)
  refine go ?_
  refine GoL.sl (Ef.app (f := fcell) (l := evA (pathTo t.os p.os i)) (l2 := [false]) (v := .slice a2 (evA (pathTo t.os p.os i)).length c2) elB (fun _ => rfl) fcell_one (by have := hA.out; simp only [List.length_cons, List.length_nil]; omega) pk (fun w hw => hw.ownRd (l := [false]) pk)) (fun a6 c6 => ?_)
  rw [evA_app0 _ (lx p.os i)]
  refine go ?_
  refine D.al ?_
  refine D.nilp 9 (fun b9 => ?_)
  refine go ?_
  generalize hL1 : pathTo t.os p.os i ++ [⟨lx p.os i, 0⟩] = L1
  replace hL1 := hid hL1
  have hlL1 : L1.length ≤ 100 := by rw [← hL1.out, List.length_append]; simp only [List.length_cons, List.length_nil]; omega
  generalize hO : lx t.os (lx p.os i).toNat = o at hfr0 ⊢
  refine go_if (fun h => ?_) (fun h => ?_)
  · have hi : i = p.os.length - 1 := by omega
    have hE := hid (show pathE t.os p.os = L1 by rw [pathE, ← hi, hL1.out])
    replace hi := hid hi
    clear h
    refine go ?_
    refine end2 (fun w' hw => ⟨((a4, c4), (a6, c6)), by rw [hE.out], ?_⟩)
    rw [hE.out]; exact hw.done sb
  have hi : i + 1 < p.os.length := by omega
  refine go ?_
  refine GoL.cv (fun w' hw => rfrom_v o w') ?_
  refine go ?_
  refine go_if (fun hF0 => ?_) (fun hF0 => ?_)
  · have hF : fromB o.op = true := by first | exact hF0 | simpa using hF0 | simpa [twB] using hF0
    have hbF := hfr0.1 hF
    replace hF := hid hF
    clear hF0
    refine go ?_
    refine GoL.sl (Ef.lit (f := icell) (m := 1) (e := 3) [(t.os.length : Int) + o.fr] (fun _ => rfl) rfl) (fun x20 y20 => ?_)
    refine go ?_
    refine GoL.sl (Ef.app (f := icell) (l := evI (L1)) (l2 := [(t.os.length : Int) + o.fr]) (v := .slice a4 (evI (L1)).length c4) elI (fun _ => rfl) icell_one (by simp only [evI_len, List.length_append, List.length_cons, List.length_nil]; omega) pk (fun w hw => hw.ownRd (l := [(t.os.length : Int) + o.fr]) pk)) (fun a20 c20 => ?_)
    rw [evI_app _ _ 0]
    refine go ?_
    refine GoL.sl (Ef.lit (f := fcell) (m := 1) (e := 4) [false] (fun _ => rfl) rfl) (fun x21 y21 => ?_)
    refine go ?_
    refine GoL.sl (Ef.app (f := fcell) (l := evA (L1)) (l2 := [false]) (v := .slice a6 (evA (L1)).length c6) elB (fun _ => rfl) fcell_one (by simp only [evA_len, List.length_append, List.length_cons, List.length_nil]; omega) pk (fun w hw => hw.ownRd (l := [false]) pk)) (fun a21 c21 => ?_)
    rw [evA_app0 _ ((t.os.length : Int) + o.fr)]
    generalize hL2 : L1 ++ [⟨(t.os.length : Int) + o.fr, 0⟩] = L2
    replace hL2 := hid hL2
    have hlL2 : L2.length ≤ 102 := by rw [← hL2.out, List.length_append]; simp only [List.length_cons, List.length_nil]; omega
    refine go ?_
    refine GoL.cv (fun w' hw => rto_v o w') ?_
    refine go ?_
    refine go_if (fun hT0 => ?_) (fun hT0 => ?_)
    · have hT : toB o.op = true := by first | exact hT0 | simpa using hT0 | simpa [twB] using hT0
      have hbT := hfr0.2 hT
      replace hT := hid hT
      clear hT0
      refine go ?_
      refine GoL.sl (Ef.lit (f := icell) (m := 1) (e := 3) [(t.os.length : Int) + o.tt] (fun _ => rfl) rfl) (fun x30 y30 => ?_)
      refine go ?_
      refine GoL.sl (Ef.app (f := icell) (l := evI (L2)) (l2 := [(t.os.length : Int) + o.tt]) (v := .slice a20 (evI (L2)).length c20) elI (fun _ => rfl) icell_one (by simp only [evI_len, List.length_append, List.length_cons, List.length_nil]; omega) pk (fun w hw => hw.ownRd (l := [(t.os.length : Int) + o.tt]) pk)) (fun a30 c30 => ?_)
      rw [evI_app _ _ 0]
      refine go ?_
      refine GoL.sl (Ef.lit (f := fcell) (m := 1) (e := 4) [false] (fun _ => rfl) rfl) (fun x31 y31 => ?_)
      refine go ?_
      refine GoL.sl (Ef.app (f := fcell) (l := evA (L2)) (l2 := [false]) (v := .slice a21 (evA (L2)).length c21) elB (fun _ => rfl) fcell_one (by simp only [evA_len, List.length_append, List.length_cons, List.length_nil]; omega) pk (fun w hw => hw.ownRd (l := [false]) pk)) (fun a31 c31 => ?_)
      rw [evA_app0 _ ((t.os.length : Int) + o.tt)]
      generalize hL3 : L2 ++ [⟨(t.os.length : Int) + o.tt, 0⟩] = L3
      replace hL3 := hid hL3
      have hlL3 : L3.length ≤ 103 := by rw [← hL3.out, List.length_append]; simp only [List.length_cons, List.length_nil]; omega
      refine go ?_
      refine go_if (fun hW0 => ?_) (fun hW0 => ?_)
      · have hW : twB o.op = true := by first | exact hW0 | simpa using hW0 | simpa [twB] using hW0
        have hbW := hfr0.2 (by have hW9 := hW; simp [twB] at hW9; simp [toB, hW9])
        replace hW := hid hW
        clear hW0
        refine go ?_
        refine GoL.sl (Ef.lit (f := icell) (m := 1) (e := 3) [(t.os.length : Int) + o.tt] (fun _ => rfl) rfl) (fun x40 y40 => ?_)
        refine go ?_
        refine GoL.sl (Ef.app (f := icell) (l := evI (L3)) (l2 := [(t.os.length : Int) + o.tt]) (v := .slice a30 (evI (L3)).length c30) elI (fun _ => rfl) icell_one (by simp only [evI_len, List.length_append, List.length_cons, List.length_nil]; omega) pk (fun w hw => hw.ownRd (l := [(t.os.length : Int) + o.tt]) pk)) (fun a40 c40 => ?_)
        rw [evI_app _ _ 12]
        refine go ?_
        refine GoL.sl (Ef.lit (f := fcell) (m := 1) (e := 4) [true] (fun _ => rfl) rfl) (fun x41 y41 => ?_)
        refine go ?_
        refine GoL.sl (Ef.app (f := fcell) (l := evA (L3)) (l2 := [true]) (v := .slice a31 (evA (L3)).length c31) elB (fun _ => rfl) fcell_one (by simp only [evA_len, List.length_append, List.length_cons, List.length_nil]; omega) pk (fun w hw => hw.ownRd (l := [true]) pk)) (fun a41 c41 => ?_)
        rw [evA_app1 _ ((t.os.length : Int) + o.tt)]
        generalize hL4 : L3 ++ [⟨(t.os.length : Int) + o.tt, 12⟩] = L4
        replace hL4 := hid hL4
        have hlL4 : L4.length ≤ 104 := by rw [← hL4.out, List.length_append]; simp only [List.length_cons, List.length_nil]; omega
        refine go ?_
        have hS : pathTo t.os p.os (i + 1) = L4 := by rw [pathTo, stepE, hO, if_pos hF.out, if_pos hT.out, if_pos hW.out, ← hL4.out, ← hL3.out, ← hL2.out, ← hL1.out]; simp
        rw [← hS]
        exact go_again (i + 1, (a40, c40), (a41, c41)) hi (by simp only; omega) (by simp [AgreeL, At]) sb
      · have hW : ¬ twB o.op = true := by first | exact hW0 | simpa using hW0 | simpa [twB] using hW0
        replace hW := hid hW
        clear hW0
        refine go ?_
        have hS : pathTo t.os p.os (i + 1) = L3 := by rw [pathTo, stepE, hO, if_pos hF.out, if_pos hT.out, if_neg hW.out, ← hL3.out, ← hL2.out, ← hL1.out]; simp
        rw [← hS]
        exact go_again (i + 1, (a30, c30), (a31, c31)) hi (by simp only; omega) (by simp [AgreeL, At]) sb
    · have hT : ¬ toB o.op = true := by first | exact hT0 | simpa using hT0 | simpa [twB] using hT0
      replace hT := hid hT
      clear hT0
      refine go ?_
      refine go_if (fun hW0 => ?_) (fun hW0 => ?_)
      · have hW : twB o.op = true := by first | exact hW0 | simpa using hW0 | simpa [twB] using hW0
        have hbW := hfr0.2 (by have hW9 := hW; simp [twB] at hW9; simp [toB, hW9])
        replace hW := hid hW
        clear hW0
        refine go ?_
        refine GoL.sl (Ef.lit (f := icell) (m := 1) (e := 3) [(t.os.length : Int) + o.tt] (fun _ => rfl) rfl) (fun x40 y40 => ?_)
        refine go ?_
        refine GoL.sl (Ef.app (f := icell) (l := evI (L2)) (l2 := [(t.os.length : Int) + o.tt]) (v := .slice a20 (evI (L2)).length c20) elI (fun _ => rfl) icell_one (by simp only [evI_len, List.length_append, List.length_cons, List.length_nil]; omega) pk (fun w hw => hw.ownRd (l := [(t.os.length : Int) + o.tt]) pk)) (fun a40 c40 => ?_)
        rw [evI_app _ _ 12]
        refine go ?_
        refine GoL.sl (Ef.lit (f := fcell) (m := 1) (e := 4) [true] (fun _ => rfl) rfl) (fun x41 y41 => ?_)
        refine go ?_
        refine GoL.sl (Ef.app (f := fcell) (l := evA (L2)) (l2 := [true]) (v := .slice a21 (evA (L2)).length c21) elB (fun _ => rfl) fcell_one (by simp only [evA_len, List.length_append, List.length_cons, List.length_nil]; omega) pk (fun w hw => hw.ownRd (l := [true]) pk)) (fun a41 c41 => ?_)
        rw [evA_app1 _ ((t.os.length : Int) + o.tt)]
        generalize hL4 : L2 ++ [⟨(t.os.length : Int) + o.tt, 12⟩] = L4
        replace hL4 := hid hL4
        have hlL4 : L4.length ≤ 104 := by rw [← hL4.out, List.length_append]; simp only [List.length_cons, List.length_nil]; omega
        refine go ?_
        have hS : pathTo t.os p.os (i + 1) = L4 := by rw [pathTo, stepE, hO, if_pos hF.out, if_neg hT.out, if_pos hW.out, ← hL4.out, ← hL2.out, ← hL1.out]; simp
        rw [← hS]
        exact go_again (i + 1, (a40, c40), (a41, c41)) hi (by simp only; omega) (by simp [AgreeL, At]) sb
      · have hW : ¬ twB o.op = true := by first | exact hW0 | simpa using hW0 | simpa [twB] using hW0
        replace hW := hid hW
        clear hW0
        refine go ?_
        have hS : pathTo t.os p.os (i + 1) = L2 := by rw [pathTo, stepE, hO, if_pos hF.out, if_neg hT.out, if_neg hW.out, ← hL2.out, ← hL1.out]; simp
        rw [← hS]
        exact go_again (i + 1, (a20, c20), (a21, c21)) hi (by simp only; omega) (by simp [AgreeL, At]) sb
  · have hF : ¬ fromB o.op = true := by first | exact hF0 | simpa using hF0 | simpa [twB] using hF0
    replace hF := hid hF
    clear hF0
    refine go ?_
    refine GoL.cv (fun w' hw => rto_v o w') ?_
    refine go ?_
    refine go_if (fun hT0 => ?_) (fun hT0 => ?_)
    · have hT : toB o.op = true := by first | exact hT0 | simpa using hT0 | simpa [twB] using hT0
      have hbT := hfr0.2 hT
      replace hT := hid hT
      clear hT0
      refine go ?_
      refine GoL.sl (Ef.lit (f := icell) (m := 1) (e := 3) [(t.os.length : Int) + o.tt] (fun _ => rfl) rfl) (fun x30 y30 => ?_)
      refine go ?_
      refine GoL.sl (Ef.app (f := icell) (l := evI (L1)) (l2 := [(t.os.length : Int) + o.tt]) (v := .slice a4 (evI (L1)).length c4) elI (fun _ => rfl) icell_one (by simp only [evI_len, List.length_append, List.length_cons, List.length_nil]; omega) pk (fun w hw => hw.ownRd (l := [(t.os.length : Int) + o.tt]) pk)) (fun a30 c30 => ?_)
      rw [evI_app _ _ 0]
      refine go ?_
      refine GoL.sl (Ef.lit (f := fcell) (m := 1) (e := 4) [false] (fun _ => rfl) rfl) (fun x31 y31 => ?_)
      refine go ?_
      refine GoL.sl (Ef.app (f := fcell) (l := evA (L1)) (l2 := [false]) (v := .slice a6 (evA (L1)).length c6) elB (fun _ => rfl) fcell_one (by simp only [evA_len, List.length_append, List.length_cons, List.length_nil]; omega) pk (fun w hw => hw.ownRd (l := [false]) pk)) (fun a31 c31 => ?_)
      rw [evA_app0 _ ((t.os.length : Int) + o.tt)]
      generalize hL3 : L1 ++ [⟨(t.os.length : Int) + o.tt, 0⟩] = L3
      replace hL3 := hid hL3
      have hlL3 : L3.length ≤ 103 := by rw [← hL3.out, List.length_append]; simp only [List.length_cons, List.length_nil]; omega
      refine go ?_
      refine go_if (fun hW0 => ?_) (fun hW0 => ?_)
      · have hW : twB o.op = true := by first | exact hW0 | simpa using hW0 | simpa [twB] using hW0
        have hbW := hfr0.2 (by have hW9 := hW; simp [twB] at hW9; simp [toB, hW9])
        replace hW := hid hW
        clear hW0
        refine go ?_
        refine GoL.sl (Ef.lit (f := icell) (m := 1) (e := 3) [(t.os.length : Int) + o.tt] (fun _ => rfl) rfl) (fun x40 y40 => ?_)
        refine go ?_
        refine GoL.sl (Ef.app (f := icell) (l := evI (L3)) (l2 := [(t.os.length : Int) + o.tt]) (v := .slice a30 (evI (L3)).length c30) elI (fun _ => rfl) icell_one (by simp only [evI_len, List.length_append, List.length_cons, List.length_nil]; omega) pk (fun w hw => hw.ownRd (l := [(t.os.length : Int) + o.tt]) pk)) (fun a40 c40 => ?_)
        rw [evI_app _ _ 12]
        refine go ?_
        refine GoL.sl (Ef.lit (f := fcell) (m := 1) (e := 4) [true] (fun _ => rfl) rfl) (fun x41 y41 => ?_)
        refine go ?_
        refine GoL.sl (Ef.app (f := fcell) (l := evA (L3)) (l2 := [true]) (v := .slice a31 (evA (L3)).length c31) elB (fun _ => rfl) fcell_one (by simp only [evA_len, List.length_append, List.length_cons, List.length_nil]; omega) pk (fun w hw => hw.ownRd (l := [true]) pk)) (fun a41 c41 => ?_)
        rw [evA_app1 _ ((t.os.length : Int) + o.tt)]
        generalize hL4 : L3 ++ [⟨(t.os.length : Int) + o.tt, 12⟩] = L4
        replace hL4 := hid hL4
        have hlL4 : L4.length ≤ 104 := by rw [← hL4.out, List.length_append]; simp only [List.length_cons, List.length_nil]; omega
        refine go ?_
        have hS : pathTo t.os p.os (i + 1) = L4 := by rw [pathTo, stepE, hO, if_neg hF.out, if_pos hT.out, if_pos hW.out, ← hL4.out, ← hL3.out, ← hL1.out]; simp
        rw [← hS]
        exact go_again (i + 1, (a40, c40), (a41, c41)) hi (by simp only; omega) (by simp [AgreeL, At]) sb
      · have hW : ¬ twB o.op = true := by first | exact hW0 | simpa using hW0 | simpa [twB] using hW0
        replace hW := hid hW
        clear hW0
        refine go ?_
        have hS : pathTo t.os p.os (i + 1) = L3 := by rw [pathTo, stepE, hO, if_neg hF.out, if_pos hT.out, if_neg hW.out, ← hL3.out, ← hL1.out]; simp
        rw [← hS]
        exact go_again (i + 1, (a30, c30), (a31, c31)) hi (by simp only; omega) (by simp [AgreeL, At]) sb
    · have hT : ¬ toB o.op = true := by first | exact hT0 | simpa using hT0 | simpa [twB] using hT0
      replace hT := hid hT
      clear hT0
      refine go ?_
      refine go_if (fun hW0 => ?_) (fun hW0 => ?_)
      · have hW : twB o.op = true := by first | exact hW0 | simpa using hW0 | simpa [twB] using hW0
        have hbW := hfr0.2 (by have hW9 := hW; simp [twB] at hW9; simp [toB, hW9])
        replace hW := hid hW
        clear hW0
        refine go ?_
        refine GoL.sl (Ef.lit (f := icell) (m := 1) (e := 3) [(t.os.length : Int) + o.tt] (fun _ => rfl) rfl) (fun x40 y40 => ?_)
        refine go ?_
        refine GoL.sl (Ef.app (f := icell) (l := evI (L1)) (l2 := [(t.os.length : Int) + o.tt]) (v := .slice a4 (evI (L1)).length c4) elI (fun _ => rfl) icell_one (by simp only [evI_len, List.length_append, List.length_cons, List.length_nil]; omega) pk (fun w hw => hw.ownRd (l := [(t.os.length : Int) + o.tt]) pk)) (fun a40 c40 => ?_)
        rw [evI_app _ _ 12]
        refine go ?_
        refine GoL.sl (Ef.lit (f := fcell) (m := 1) (e := 4) [true] (fun _ => rfl) rfl) (fun x41 y41 => ?_)
        refine go ?_
        refine GoL.sl (Ef.app (f := fcell) (l := evA (L1)) (l2 := [true]) (v := .slice a6 (evA (L1)).length c6) elB (fun _ => rfl) fcell_one (by simp only [evA_len, List.length_append, List.length_cons, List.length_nil]; omega) pk (fun w hw => hw.ownRd (l := [true]) pk)) (fun a41 c41 => ?_)
        rw [evA_app1 _ ((t.os.length : Int) + o.tt)]
        generalize hL4 : L1 ++ [⟨(t.os.length : Int) + o.tt, 12⟩] = L4
        replace hL4 := hid hL4
        have hlL4 : L4.length ≤ 104 := by rw [← hL4.out, List.length_append]; simp only [List.length_cons, List.length_nil]; omega
        refine go ?_
        have hS : pathTo t.os p.os (i + 1) = L4 := by rw [pathTo, stepE, hO, if_neg hF.out, if_neg hT.out, if_pos hW.out, ← hL4.out, ← hL1.out]; simp
        rw [← hS]
        exact go_again (i + 1, (a40, c40), (a41, c41)) hi (by simp only; omega) (by simp [AgreeL, At]) sb
      · have hW : ¬ twB o.op = true := by first | exact hW0 | simpa using hW0 | simpa [twB] using hW0
        replace hW := hid hW
        clear hW0
        refine go ?_
        have hS : pathTo t.os p.os (i + 1) = L1 := by rw [pathTo, stepE, hO, if_neg hF.out, if_neg hT.out, if_neg hW.out, ← hL1.out]; simp
        rw [← hS]
        exact go_again (i + 1, (a4, c4), (a6, c6)) hi (by simp only; omega) (by simp [AgreeL, At]) sb
end

section
set_option linter.all false
set_option pp.maxSteps 100000
set_option maxRecDepth 100000
set_option maxHeartbeats 4000000
open Go.RowKit

theorem rlayout_v (t : TD) (ht : t.Ok) (lay : List Int) (al : Option Addr) (cl : Nat) (w : World) (hn : t.Len) (hl : Rd icell 1 w al lay) (hll : lay.length ≤ 9223372036854775807) :
    Calls Tryz.prog 44 #[.agg #[.slice t.ao t.os.length t.co, .int .i64 t.data, .int .i64 t.lines, .slice t.ap t.ps.length t.cp], .slice al lay.length cl] w (fun e w' => e = .returned (.int .i64 (layL t lay)) ∧ Below w.heap.size w w') := by
  have hd1 := ht.d1
  have hn1 := ht.n1
  have hl1 := ht.l1
  refine go_in Tryz.func44 rfl Tryz.ntmps44 [] [] (Mem.start _) ?_
  refine go ?_
  refine GoL.a (fun b2 => ?_)
  refine go ?_
  refine GoL.cv (fun w' hw => items_ref t w' hn hd1 hn1.2) ?_
  refine go ?_
  refine go_if (fun h1 => ?_) (fun h1 => ?_)
  · refine go ?_
    refine ev1 ?_
    rw [layL, layE, if_pos (by omega)]
  have hlen : lay.length = t.os.length + t.data.toNat := by omega
  have hlen2 := hid hlen
  have hl40 : lay.length ≤ 40 := by omega
  clear hlen h1
  have hL : ∀ i, (i < lay.length ∧ ¬ (if outP (lx lay i) 0 (t.lines * 16 - 1) then (7 : Int) else if lx lay i ∈ lay.take i then 5 else 0) = 0 ∧ ∀ j, j < i → (if outP (lx lay j) 0 (t.lines * 16 - 1) then (7 : Int) else if lx lay j ∈ lay.take j then 5 else 0) = 0) → layL t lay = if outP (lx lay i) 0 (t.lines * 16 - 1) then 7 else 5 := fun i ⟨h1, h2, h3⟩ => by
    rw [layL, layE, if_neg (by have := hlen2.out; omega), firstBad_some h1 h2 h3]
  refine go ?_
  refine go_loop (X := Nat) (fun y => y ≤ lay.length ∧ ∀ j, j < y → (if outP (lx lay j) 0 (t.lines * 16 - 1) then (7 : Int) else if lx lay j ∈ lay.take j then 5 else 0) = 0) (fun y => lay.length - y) (fun y => [(5, .int .i64 y)]) (fun _ => [.cells b2 [.slice t.ao t.os.length t.co, .int .i64 t.data, .int .i64 t.lines, .slice t.ap t.ps.length t.cp]]) 0 [1, 2, 4] ⟨Nat.zero_le _, fun j hj => by omega⟩ (by simp [AgreeL, At]) sb (fun i hi => ?_)
  obtain ⟨hi, hall⟩ := hi
  refine go ?_
  refine go_if (fun h3 => ?_) (fun h3 => ?_)
  rotate_left
  · have hi9 : i = lay.length := by omega
    have hz : layL t lay = 0 := by rw [layL, layE, if_neg (by have := hlen2.out; omega), firstBad_none (fun j hj => hall j (by omega))]
    have hz2 := hid hz
    clear hz hi9 hL
    refine go ?_
    exact ev1 (by rw [hz2.out])
  have hk : i < lay.length := by omega
  refine go ?_
  refine GoL.cv (fun w' hw => rin_v _ _ _ w') ?_
  refine go ?_
  refine go_if (fun h4 => ?_) (fun h4 => ?_)
  · have hz := hid (hL i ⟨hk, by rw [if_pos h4]; decide, hall⟩)
    refine go ?_
    exact ev1 (by rw [hz.out, if_pos h4])
  refine go ?_
  refine go_loop (X := Nat) (fun y => y ≤ i ∧ ∀ j, j < y → ¬ lx lay j = lx lay i) (fun y => i - y) (fun y => [(6, .int .i64 y)]) (fun _ => [.cells b2 [.slice t.ao t.os.length t.co, .int .i64 t.data, .int .i64 t.lines, .slice t.ap t.ps.length t.cp]]) 0 [1, 2, 4, 5] ⟨Nat.zero_le _, fun j hj => by omega⟩ (by simp [AgreeL, At]) sb (fun k hk2 => ?_)
  obtain ⟨hk2, hall2⟩ := hk2
  refine go ?_
  refine go_if (fun h5 => ?_) (fun h5 => ?_)
  · have hk3 : k < i := by omega
    refine go ?_
    refine go_if (fun h6 => ?_) (fun h6 => ?_)
    · have hm : lx lay i ∈ lay.take i := by
        have : lx lay k = lx lay i := by simpa using h6
        rw [← this, ← lx_take hk3]; exact lx_mem (by simp; omega)
      have hz := hid (hL i ⟨hk, by rw [if_neg h4, if_pos hm]; decide, hall⟩)
      clear h6
      refine go ?_
      exact ev1 (by rw [hz.out, if_neg h4])
    · have h7 : ¬ lx lay k = lx lay i := by simpa using h6
      clear h6
      refine go ?_
      exact go_again (k + 1) ⟨hk3, fun j hj => by
        by_cases e : j = k
        · rw [e]; exact h7
        · exact hall2 j (by omega)⟩ (by omega) (by simp [AgreeL, At]) sb
  · have hk9 : k = i := by omega
    have hnm : ¬ lx lay i ∈ lay.take i := fun hm => by
      obtain ⟨j, hj, e⟩ := List.mem_iff_getElem.1 hm
      have hj2 : j < i := by simp at hj; omega
      rw [← lx_eq hj, lx_take hj2] at e
      exact hall2 j (by omega) e
    clear hk9
    refine go ?_
    exact go_again (i + 1) ⟨hk, fun j hj => by
      by_cases e : j = i
      · rw [e, if_neg h4, if_neg hnm]
      · exact hall j (by omega)⟩ (by omega) (by simp [AgreeL, At]) sb
end

section
set_option linter.all false
set_option pp.maxSteps 100000
set_option maxRecDepth 100000
set_option maxHeartbeats 4000000
open Go.RowKit

theorem stepE_wait (os : List LOrd) (k : Int) : ∀ v ∈ stepE os k, v.wait = 0 ∨ v.wait = 12 := by
  intro v hv
  unfold stepE at hv
  rcases List.mem_cons.1 hv with rfl | hv
  · exact .inl rfl
  rcases List.mem_append.1 hv with hv | hv
  · split at hv
    · obtain rfl : v = _ := by simpa using hv
      exact .inl rfl
    · simp at hv
  rcases List.mem_append.1 hv with hv | hv
  · split at hv
    · obtain rfl : v = _ := by simpa using hv
      exact .inl rfl
    · simp at hv
  · split at hv
    · obtain rfl : v = _ := by simpa using hv
      exact .inr rfl
    · simp at hv
theorem pathTo_wait (os : List LOrd) (l : List Int) : ∀ i, ∀ v ∈ pathTo os l i, v.wait = 0 ∨ v.wait = 12
  | 0, v, h => by simp [pathTo] at h
  | i + 1, v, h => by
    rcases List.mem_append.1 h with h | h
    · exact pathTo_wait os l i v h
    · exact stepE_wait os _ v h
theorem pathE_wait (os : List LOrd) (l : List Int) : ∀ v ∈ pathE os l, v.wait = 0 ∨ v.wait = 12 := fun v h => by
  rcases List.mem_append.1 h with h | h
  · exact pathTo_wait os l _ v h
  · obtain rfl : v = _ := by simpa using h
    exact .inl rfl
theorem revents_ok (t : TD) (ht : t.Ok) (p : PthR) (hp : p ∈ t.ps) (w : World) (hn : t.Len) (hT : t.At w) :
    Calls Tryz.prog 51 #[.agg #[.slice t.ao t.os.length t.co, .int .i64 t.data, .int .i64 t.lines, .slice t.ap t.ps.length t.cp], .agg #[.slice p.a p.os.length p.c, .int .i64 p.cnt]] w
      (Ret (fun q : (Option Addr × Nat) × (Option Addr × Nat) => .tuple #[.slice q.1.1 (evI (pathE t.os p.os)).length q.1.2, .slice q.2.1 (evA (pathE t.os p.os)).length q.2.2]) (fun q => [.own icell 1 3 (.slice q.1.1 (evI (pathE t.os p.os)).length q.1.2) (evI (pathE t.os p.os)), .own fcell 1 4 (.slice q.2.1 (evA (pathE t.os p.os)).length q.2.2) (evA (pathE t.os p.os))]) w) := by
  have hw := wildL_ok (ht.w p hp)
  have hd := ht.d1
  refine revents_v t p w hn hT ht.n1.2 (hT.q p hp) hw.1 hw.2.2.1 fun i hi => ?_
  have hb := hw.2.2.1 i hi
  have ho := oddL_ok (ht.o _ (lx_mem (l := t.os) (i := i.toNat) (by omega)))
  exact ⟨fun h => by have := ho.2.1 h; omega, fun h => by have := ho.2.2.1 h; omega⟩
/-- the reference's time of event i -/
def tmR (lay : List Int) (es : List Evt) (i : Nat) : Int := timeT lay es i - (beginT lay es - beginT lay es % 16)
theorem tmR_0 (lay : List Int) (es : List Evt) : tmR lay es 0 = beginT lay es % 16 := by simp only [tmR, timeT]; omega
theorem tmR_succ (lay : List Int) (es : List Evt) (i : Nat) : aftI (tmR lay es i + (lx es (i + 1)).wait) (lx lay (lx es (i + 1)).item.toNat) = tmR lay es (i + 1) := by
  simp only [tmR, timeT, stepT, aftI]; omega
theorem rtakes_v (t : TD) (ht : t.Ok) (p : PthR) (hp : p ∈ t.ps) (lay : List Int) (al : Option Addr) (cl : Nat) (w : World) (hn : t.Len) (hT : t.At w) (hl : Rd icell 1 w al lay) (hL : layL t lay = 0) :
    Calls Tryz.prog 91 #[.agg #[.slice t.ao t.os.length t.co, .int .i64 t.data, .int .i64 t.lines, .slice t.ap t.ps.length t.cp], .slice al lay.length cl, .agg #[.slice p.a p.os.length p.c, .int .i64 p.cnt]] w (fun e w' => e = .returned (.int .i64 (pathT lay (pathE t.os p.os))) ∧ Below w.heap.size w w') := by
  have hd1 := ht.d1
  have hl1 := ht.l1
  obtain ⟨hL1, hL2, _⟩ := layE_ok hL
  have hL3 := hid hL1
  have hll : lay.length ≤ 40 := by have := ht.n1; omega
  have hpl := pathE_len t.os p.os (wildL_ok (ht.w p hp)).1.2
  have hit := pathE_item ht hp
  have hwt := pathE_wait t.os p.os
  have hbd := timeT_bd (lay := lay) (l := pathE t.os p.os) (fun v hv => (hit v hv).2.2)
  have hR := fun w' (hw : Mem w [] [] w') => revents_ok t ht p hp w' hn (hT.old hw)
  have hLx : ∀ j, j < lay.length → 0 ≤ lx lay j ∧ lx lay j < 128 := fun j hj => by have := hL2 _ (lx_mem hj); omega
  clear hL1 hL2 hL
  have hev := fun w' (h : t.At w') => revents_ok t ht p hp w' hn h
  clear hR
  generalize hes : pathE t.os p.os = es at *
  refine go_in Tryz.func91 rfl Tryz.ntmps91 [] [] (Mem.start _) ?_
  refine go ?_
  refine GoL.a (fun b3 => ?_)
  refine go ?_
  refine GoL.a (fun b5 => ?_)
  refine go ?_
  refine GoL.c (fun w' hw => hev w' (hT.old hw)) (fun q => ?_)
  obtain ⟨⟨a1, c1⟩, a2, c2⟩ := q
  dsimp only
  refine GoL.mem (H' := [.rd icell 1 a1 (evI es), .rd fcell 1 a2 (evA es)]) (fun w hw => ((hw.o2r (f := icell) (l := evI es) .here (fun _ => rfl)).o2r (f := fcell) (l := evA es) (.there .here) (fun _ => rfl)).sub sb) ?_
  have hI := hid (evI_len es)
  have hA := hid (evA_len es)
  have hIx : ∀ j, j < es.length → lx (evI es) j = (lx es j).item := fun j hj => lx_map hj
  have hAx : ∀ j, j < es.length → lx (evA es) j = decide ((lx es j).wait = 12) := fun j hj => lx_map hj
  have hrg : ∀ j, j < (evI es).length → 0 ≤ lx (evI es) j ∧ lx (evI es) j < lay.length := fun j hj => by
    rw [evI_len] at hj
    have := hit _ (lx_mem hj); have := hL3.out; rw [hIx j hj]; omega
  have hI93 : 1 ≤ (evI es).length ∧ (evI es).length ≤ 93 := by rw [evI_len]; exact hpl
  generalize evI es = I at *
  generalize evA es = A at *
  have h0 := hrg 0 (by omega)
  have hI0 : 0 < I.length := by omega
  have hx0 := hLx (lx I 0).toNat (by omega)
  have hb0 := hid (show lx lay (lx I 0).toNat = beginT lay es by rw [hIx 0 (by omega)]; rfl)
  clear hev
  refine go ?_
  rw [hb0.out, ← tmR_0]
  have htm : ∀ i, i < I.length → 0 ≤ tmR lay es i ∧ tmR lay es i ≤ 3000 := fun i hi => by
    have h1 := hbd i (by have := hI.out; omega)
    have h2 := Int.emod_nonneg (beginT lay es) (b := 16) (by decide)
    have h3 := Int.emod_lt_of_pos (beginT lay es) (b := 16) (by decide)
    unfold tmR
    omega
  refine go_loop (X := Nat) (fun y => y < I.length) (fun y => I.length - y) (fun y => [(11, .int .i64 ((y : Int) + 1)), (9, .int .i64 (tmR lay es y))]) (fun _ => [.rd icell 1 a1 I, .rd fcell 1 a2 A]) 0 [1, 7, 8, 10] hI0 (by simp [AgreeL, At]) sb (fun i hi => ?_)
  have ht0 := htm i hi
  refine go ?_
  refine go_if (fun h => ?_) (fun h => ?_)
  · have hi1 : i + 1 < I.length := by omega
    have hiA : i + 1 < A.length := by have := hI.out; have := hA.out; omega
    have hie : i + 1 < es.length := by have := hI.out; omega
    have hr1 := hrg _ hi1
    have hx1 := hLx (lx I (i + 1)).toNat (by omega)
    have hai := hid (hAx _ hie)
    have hii := hid (hIx _ hie)
    have hts := hid (tmR_succ lay es i)
    have ht1 := htm _ hi1
    have hcs := hwt _ (lx_mem hie)
    refine go ?_
    rw [show ((i : Int) + 1).toNat = i + 1 by omega]
    rcases hcs with hc | hc
    · have hc2 := hid hc
      clear hc
      rw [hai.out, hc2.out]
      refine go ?_
      rw [show ((i : Int) + 1).toNat = i + 1 by omega]
      have hE := hid (show aftI (tmR lay es i) (lx lay (lx I (i + 1)).toNat) = tmR lay es (i + 1) by
        rw [hii.out]; have := hts.out; rw [hc2.out] at this; simpa using this)
      refine go ?_
      refine GoL.cv (fun w' hw => rAfter_v (tmR lay es i) (lx lay (lx I (i + 1)).toNat) w' (by omega) (by omega)) ?_
      rw [hE.out]
      refine go ?_
      exact go_again (i + 1) hi1 (by omega) (by simp [AgreeL, At]) sb
    · have hc2 := hid hc
      clear hc
      rw [hai.out, hc2.out]
      refine go ?_
      rw [show ((i : Int) + 1).toNat = i + 1 by omega]
      have hE := hid (show aftI (tmR lay es i + 12) (lx lay (lx I (i + 1)).toNat) = tmR lay es (i + 1) by
        rw [hii.out]; have := hts.out; rw [hc2.out] at this; simpa using this)
      refine go ?_
      refine GoL.cv (fun w' hw => rAfter_v (tmR lay es i + 12) (lx lay (lx I (i + 1)).toNat) w' (by omega) (by omega)) ?_
      rw [hE.out]
      refine go ?_
      exact go_again (i + 1) hi1 (by omega) (by simp [AgreeL, At]) sb
  have hi9 : i + 1 = I.length := by omega
  have hR := hid (show tmR lay es i - tmR lay es 0 = pathT lay es by
    rw [tmR_0]; unfold tmR pathT; rw [show es.length - 1 = i by have := hI.out; omega]; omega)
  have ht00 := htm 0 hI0
  refine go ?_
  refine ev1 ?_
  rw [hR.out]
theorem rcost_v (t : TD) (ht : t.Ok) (lay : List Int) (al : Option Addr) (cl : Nat) (w : World) (hn : t.Len) (hT : t.At w) (hl : Rd icell 1 w al lay) (hL : layL t lay = 0) :
    Calls Tryz.prog 45 #[.agg #[.slice t.ao t.os.length t.co, .int .i64 t.data, .int .i64 t.lines, .slice t.ap t.ps.length t.cp], .slice al lay.length cl] w (fun e w' => e = .returned (.int .i64 (costL t lay)) ∧ Below w.heap.size w w') := by
  have hTp := hT.p
  have hp8 := ht.p1
  have hcn : ∀ i, i < t.ps.length → (1 ≤ (lx t.ps i).cnt ∧ (lx t.ps i).cnt ≤ 1000) ∧ 0 ≤ pathT lay (pathE t.os (lx t.ps i).os) ∧ pathT lay (pathE t.os (lx t.ps i).os) ≤ 3000 := fun i hi => by
    have h1 := wildL_ok (ht.w _ (lx_mem hi))
    have h2 := pathE_len t.os (lx t.ps i).os h1.1.2
    exact ⟨h1.2.1, pathT_bd (fun v hv => (pathE_item ht (lx_mem hi) v hv).2.2) (by omega)⟩
  refine go_in Tryz.func45 rfl Tryz.ntmps45 [] [] (Mem.start _) ?_
  refine go ?_
  refine GoL.a (fun b2 => ?_)
  refine go ?_
  have hcT := fun m => hid (show costT (fun i => (lx t.ps i).cnt) (fun i => lx (openE t) i) lay (m + 1) = costT (fun i => (lx t.ps i).cnt) (fun i => lx (openE t) i) lay m + (lx t.ps m).cnt * pathT lay (lx (openE t) m) from rfl)
  have hc0 : costT (fun i => (lx t.ps i).cnt) (fun i => lx (openE t) i) lay 0 = 0 := rfl
  have hcl : costL t lay = costT (fun i => (lx t.ps i).cnt) (fun i => lx (openE t) i) lay t.ps.length := rfl
  have hop : ∀ m, m < t.ps.length → lx (openE t) m = pathE t.os (lx t.ps m).os := fun m hm => by unfold openE; rw [lx_map hm]
  rw [hcl]
  clear hcl
  generalize costT (fun i => (lx t.ps i).cnt) (fun i => lx (openE t) i) lay = C at *
  refine go_loop (X := Nat) (fun y => y ≤ t.ps.length ∧ 0 ≤ C y ∧ C y ≤ 3000000 * y) (fun y => t.ps.length - y) (fun y => [(6, .int .i64 y), (5, .int .i64 (C y))]) (fun _ => [.cells b2 [.slice t.ao t.os.length t.co, .int .i64 t.data, .int .i64 t.lines, .slice t.ap t.ps.length t.cp]]) 0 [1, 2, 4] ⟨Nat.zero_le _, by omega, by omega⟩ (by simp [AgreeL, At, hc0]) sb (fun y hy => ?_)
  obtain ⟨hy, hC⟩ := hy
  refine go ?_
  refine go_if (fun h => ?_) (fun h => ?_)
  · have hk : y < t.ps.length := by omega
    obtain ⟨g1, g2⟩ := hcn y hk
    have hs := hid ((hcT y).out.trans (by rw [hop y hk]))
    have htk := fun w' (h1 : t.At w') (h2 : Rd icell 1 w' al lay) => rtakes_v t ht (lx t.ps y) (lx_mem hk) lay al cl w' hn h1 h2 hL
    generalize pathT lay (pathE t.os (lx t.ps y).os) = z at *
    have hz : 0 ≤ (lx t.ps y).cnt * z ∧ (lx t.ps y).cnt * z ≤ 1000 * 3000 := ⟨Int.mul_nonneg (by omega) g2.1, Int.mul_le_mul g1.2 g2.2 g2.1 (by omega)⟩
    have hz2 : (lx t.ps y).cnt * z ≤ 3000000 := hz.2
    have hz1 := hz.1
    clear hz
    refine go ?_
    refine D.cv (fun F w' hw => htk w' (hT.old hw) (hw.old hl)) ?_
    refine D.q ⟨_, fun X F => Ex.q, ?_⟩
    refine D.nil0 ⟨_, fun _ => rfl, ⟨by kernel_rfl, by kernel_rfl⟩, by decide +kernel, ?_⟩
    refine go ?_
    rw [← hs.out]
    exact go_again (y + 1) ⟨hk, by have := hs.out; omega, by have := hs.out; omega⟩ (by omega) (by simp [AgreeL, At]) sb
  obtain rfl : y = t.ps.length := by omega
  refine go ?_
  exact ev1 rfl
theorem rCost_v (t : TD) (lay : List Int) (al : Option Addr) (cl : Nat) (w : World) (hn : t.Len) (hT : t.At w) (hl : Rd icell 1 w al lay) (hll : lay.length ≤ 9223372036854775807 ∧ lay.length ≤ cl) :
    Calls Tryz.prog 14 #[.agg #[.slice t.ao t.os.length t.co, .int .i64 t.data, .int .i64 t.lines, .slice t.ap t.ps.length t.cp], .slice al lay.length cl] w (fun e w' => e = .returned (.tuple #[.int .i64 (costR t lay).1, .int .i64 (costR t lay).2]) ∧ Below w.heap.size w w') := by
  obtain ⟨⟨p, i, e⟩, hr⟩ : ∃ q : Int × Int × Int, q = chkL t := ⟨_, rfl⟩
  refine go_in Tryz.func14 rfl Tryz.ntmps14 [] [] (Mem.start _) ?_
  refine go ?_
  refine GoL.a (fun b2 => ?_)
  refine go ?_
  refine GoL.cv (fun w' hw => rcheck_v t p i e w' (hT.old hw) hn hr.symm) ?_
  by_cases he : e = 0
  rotate_left
  · have hR : costR t lay = (0, e) := by unfold costR; rw [← hr, if_pos he]
    have hR2 := hid hR
    have e1 : (e == 0) = false := by simpa using he
    have e2 : (e != 0) = true := by simpa using he
    clear hR he hr
    refine go ?_
    exact ev2 ⟨by rw [hR2.out], by rw [hR2.out]⟩
  subst he
  have htok := chkL_ok hr.symm
  refine go ?_
  refine GoL.cv (fun w' hw => rlayout_v t htok lay al cl w' hn (hw.old hl) hll.1) ?_
  by_cases hL : layL t lay = 0
  rotate_left
  · have hR : costR t lay = (0, layL t lay) := by unfold costR; rw [← hr, if_neg (by simp), if_pos hL]
    have hR2 := hid hR
    have e2 : (layL t lay != 0) = true := by simpa using hL
    clear hR hL hr
    refine go ?_
    exact ev2 ⟨by rw [hR2.out], by rw [hR2.out]⟩
  have hR : costR t lay = (costL t lay, 0) := by unfold costR; rw [← hr, if_neg (by simp), if_neg (by rw [hL]; simp)]
  have hR2 := hid hR
  rw [hL]
  clear hR hr
  refine go ?_
  refine GoL.cv (fun w' hw => rcost_v t htok lay al cl w' hn (hT.old hw) (hw.old hl) hL) ?_
  refine go ?_
  exact ev2 ⟨by rw [hR2.out], by rw [hR2.out]⟩
end

section
set_option linter.all false
open Go.RowKit

def sfP_f (k : Nat) : Nat := match k with | 6 => 98 | 14 => 124 | 15 => 125 | 20 => 141 | 21 => 142 | 22 => 143 | 23 => 144 | 24 => 145 | 25 => 146 | 26 => 147 | 27 => 148 | 28 => 149 | 29 => 150 | 46 => 158 | 47 => 159 | 48 => 160 | 49 => 161 | 50 => 162 | 57 => 165 | _ => 0
def sfP_t (k : Nat) : Nat := match k with | 0 => 0 | 3 => 3 | 4 => 4 | 5 => 5 | 9 => 9 | 22 => 34 | 24 => 83 | 25 => 155 | 39 => 168 | 45 => 177 | 46 => 178 | 50 => 103 | 53 => 184 | 55 => 186 | 66 => 194 | 70 => 174 | 76 => 202 | 77 => 150 | _ => 0
def sfP_r : Go.Shelf.Ren := ⟨sfP_f, sfP_t, fun k => k⟩
theorem sfP_mixed : Tryz.prog.follows .mixedOrders = true := by kernel_rfl
theorem sfP_f6 : Bears Tryz.prog (sfP_r.f 6) (SlBodyF.n6 sfP_r) := ⟨Tryz.f98.name, by kernel_rfl, Tryz.func98.trans (congrArg some (by kernel_rfl))⟩
theorem sfP_f14 : Bears Tryz.prog (sfP_r.f 14) (SlBodyF.n14 sfP_r) := ⟨Tryz.f124.name, by kernel_rfl, Tryz.func124.trans (congrArg some (by kernel_rfl))⟩
theorem sfP_f15 : Tryz.prog.funcs[sfP_r.f 15]? = some (SlBodyF.n15 sfP_r) := Tryz.func125.trans (congrArg some (by kernel_rfl))
theorem sfP_f20 : Bears Tryz.prog (sfP_r.f 20) (SlBodyF.n20 sfP_r) := ⟨Tryz.f141.name, by kernel_rfl, Tryz.func141.trans (congrArg some (by kernel_rfl))⟩
theorem sfP_f21 : Bears Tryz.prog (sfP_r.f 21) (SlBodyF.n21 sfP_r) := ⟨Tryz.f142.name, by kernel_rfl, Tryz.func142.trans (congrArg some (by kernel_rfl))⟩
theorem sfP_f22 : Bears Tryz.prog (sfP_r.f 22) (SlBodyF.n22 sfP_r) := ⟨Tryz.f143.name, by kernel_rfl, Tryz.func143.trans (congrArg some (by kernel_rfl))⟩
theorem sfP_f23 : Bears Tryz.prog (sfP_r.f 23) (SlBodyF.n23 sfP_r) := ⟨Tryz.f144.name, by kernel_rfl, Tryz.func144.trans (congrArg some (by kernel_rfl))⟩
theorem sfP_f24 : Bears Tryz.prog (sfP_r.f 24) (SlBodyF.n24 sfP_r) := ⟨Tryz.f145.name, by kernel_rfl, Tryz.func145.trans (congrArg some (by kernel_rfl))⟩
theorem sfP_f25 : Bears Tryz.prog (sfP_r.f 25) (SlBodyF.n25 sfP_r) := ⟨Tryz.f146.name, by kernel_rfl, Tryz.func146.trans (congrArg some (by kernel_rfl))⟩
theorem sfP_f26 : Bears Tryz.prog (sfP_r.f 26) (SlBodyF.n26 sfP_r) := ⟨Tryz.f147.name, by kernel_rfl, Tryz.func147.trans (congrArg some (by kernel_rfl))⟩
theorem sfP_f27 : Bears Tryz.prog (sfP_r.f 27) (SlBodyF.n27 sfP_r) := ⟨Tryz.f148.name, by kernel_rfl, Tryz.func148.trans (congrArg some (by kernel_rfl))⟩
theorem sfP_f28 : Tryz.prog.funcs[sfP_r.f 28]? = some (SlBodyF.n28 sfP_r) := Tryz.func149.trans (congrArg some (by kernel_rfl))
theorem sfP_f29 : Tryz.prog.funcs[sfP_r.f 29]? = some (SlBodyF.n29 sfP_r) := Tryz.func150.trans (congrArg some (by kernel_rfl))
theorem sfP_f46 : Bears Tryz.prog (sfP_r.f 46) (SlBodyF.n46 sfP_r) := ⟨Tryz.f158.name, by kernel_rfl, Tryz.func158.trans (congrArg some (by kernel_rfl))⟩
theorem sfP_f47 : Tryz.prog.funcs[sfP_r.f 47]? = some (SlBodyF.n47 sfP_r) := Tryz.func159.trans (congrArg some (by kernel_rfl))
theorem sfP_f48 : Tryz.prog.funcs[sfP_r.f 48]? = some (SlBodyF.n48 sfP_r) := Tryz.func160.trans (congrArg some (by kernel_rfl))
theorem sfP_f49 : Bears Tryz.prog (sfP_r.f 49) (SlBodyF.n49 sfP_r) := ⟨Tryz.f161.name, by kernel_rfl, Tryz.func161.trans (congrArg some (by kernel_rfl))⟩
theorem sfP_f50 : Bears Tryz.prog (sfP_r.f 50) (SlBodyF.n50 sfP_r) := ⟨Tryz.f162.name, by kernel_rfl, Tryz.func162.trans (congrArg some (by kernel_rfl))⟩
theorem sfP_f57 : Bears Tryz.prog (sfP_r.f 57) (SlBodyF.n57 sfP_r) := ⟨Tryz.f165.name, by kernel_rfl, Tryz.func165.trans (congrArg some (by kernel_rfl))⟩
theorem sfP_t0 : Tryz.prog.underlying (sfP_r.t 0) = some (TypeDesc.tuple #[]) := by kernel_rfl
theorem sfP_a0 : ∀ w, (isAgg (sfP_r.t 0)).run Tryz.prog w = .ok false w := fun w => by kernel_rfl
theorem sfP_z0 : ∀ w, (Go.sizeOf (sfP_r.t 0)).run Tryz.prog w = .ok 1 w := fun w => by kernel_rfl
theorem sfP_v0 : ∀ w, (zeroValue (sfP_r.t 0)).run Tryz.prog w = .ok (Value.tuple #[]) w := fun w => by kernel_rfl
theorem sfP_t3 : Tryz.prog.underlying (sfP_r.t 3) = some (TypeDesc.int IntKind.i64) := by kernel_rfl
theorem sfP_a3 : ∀ w, (isAgg (sfP_r.t 3)).run Tryz.prog w = .ok false w := fun w => by kernel_rfl
theorem sfP_z3 : ∀ w, (Go.sizeOf (sfP_r.t 3)).run Tryz.prog w = .ok 1 w := fun w => by kernel_rfl
theorem sfP_v3 : ∀ w, (zeroValue (sfP_r.t 3)).run Tryz.prog w = .ok (Value.int IntKind.i64 0) w := fun w => by kernel_rfl
theorem sfP_t4 : Tryz.prog.underlying (sfP_r.t 4) = some (TypeDesc.bool) := by kernel_rfl
theorem sfP_a4 : ∀ w, (isAgg (sfP_r.t 4)).run Tryz.prog w = .ok false w := fun w => by kernel_rfl
theorem sfP_z4 : ∀ w, (Go.sizeOf (sfP_r.t 4)).run Tryz.prog w = .ok 1 w := fun w => by kernel_rfl
theorem sfP_v4 : ∀ w, (zeroValue (sfP_r.t 4)).run Tryz.prog w = .ok (Value.bool false) w := fun w => by kernel_rfl
theorem sfP_t5 : Tryz.prog.underlying (sfP_r.t 5) = some (TypeDesc.int IntKind.u8) := by kernel_rfl
theorem sfP_a5 : ∀ w, (isAgg (sfP_r.t 5)).run Tryz.prog w = .ok false w := fun w => by kernel_rfl
theorem sfP_z5 : ∀ w, (Go.sizeOf (sfP_r.t 5)).run Tryz.prog w = .ok 1 w := fun w => by kernel_rfl
theorem sfP_v5 : ∀ w, (zeroValue (sfP_r.t 5)).run Tryz.prog w = .ok (Value.int IntKind.u8 0) w := fun w => by kernel_rfl
theorem sfP_t9 : Tryz.prog.underlying (sfP_r.t 9) = some (TypeDesc.string) := by kernel_rfl
theorem sfP_a9 : ∀ w, (isAgg (sfP_r.t 9)).run Tryz.prog w = .ok false w := fun w => by kernel_rfl
theorem sfP_z9 : ∀ w, (Go.sizeOf (sfP_r.t 9)).run Tryz.prog w = .ok 1 w := fun w => by kernel_rfl
theorem sfP_v9 : ∀ w, (zeroValue (sfP_r.t 9)).run Tryz.prog w = .ok (Value.string { data := #[] }) w := fun w => by kernel_rfl
theorem sfP_t22 : Tryz.prog.underlying (sfP_r.t 22) = some (TypeDesc.slice (sfP_r.t 24)) := by kernel_rfl
theorem sfP_a22 : ∀ w, (isAgg (sfP_r.t 22)).run Tryz.prog w = .ok false w := fun w => by kernel_rfl
theorem sfP_z22 : ∀ w, (Go.sizeOf (sfP_r.t 22)).run Tryz.prog w = .ok 1 w := fun w => by kernel_rfl
theorem sfP_v22 : ∀ w, (zeroValue (sfP_r.t 22)).run Tryz.prog w = .ok (Value.slice none 0 0) w := fun w => by kernel_rfl
theorem sfP_t25 : Tryz.prog.underlying (sfP_r.t 25) = some (TypeDesc.func #[sfP_r.t 24, sfP_r.t 24] #[sfP_r.t 3] false) := by kernel_rfl
theorem sfP_a25 : ∀ w, (isAgg (sfP_r.t 25)).run Tryz.prog w = .ok false w := fun w => by kernel_rfl
theorem sfP_z25 : ∀ w, (Go.sizeOf (sfP_r.t 25)).run Tryz.prog w = .ok 1 w := fun w => by kernel_rfl
theorem sfP_v25 : ∀ w, (zeroValue (sfP_r.t 25)).run Tryz.prog w = .ok (Value.nilFunc) w := fun w => by kernel_rfl
theorem sfP_t39 : Tryz.prog.underlying (sfP_r.t 39) = some (TypeDesc.int IntKind.u64) := by kernel_rfl
theorem sfP_a39 : ∀ w, (isAgg (sfP_r.t 39)).run Tryz.prog w = .ok false w := fun w => by kernel_rfl
theorem sfP_z39 : ∀ w, (Go.sizeOf (sfP_r.t 39)).run Tryz.prog w = .ok 1 w := fun w => by kernel_rfl
theorem sfP_v39 : ∀ w, (zeroValue (sfP_r.t 39)).run Tryz.prog w = .ok (Value.int IntKind.u64 0) w := fun w => by kernel_rfl
theorem sfP_t45 : Tryz.prog.underlying (sfP_r.t 45) = some (TypeDesc.int IntKind.i64) := by kernel_rfl
theorem sfP_a45 : ∀ w, (isAgg (sfP_r.t 45)).run Tryz.prog w = .ok false w := fun w => by kernel_rfl
theorem sfP_z45 : ∀ w, (Go.sizeOf (sfP_r.t 45)).run Tryz.prog w = .ok 1 w := fun w => by kernel_rfl
theorem sfP_v45 : ∀ w, (zeroValue (sfP_r.t 45)).run Tryz.prog w = .ok (Value.int IntKind.i64 0) w := fun w => by kernel_rfl
theorem sfP_t46 : Tryz.prog.underlying (sfP_r.t 46) = some (TypeDesc.tuple #[sfP_r.t 3, sfP_r.t 45]) := by kernel_rfl
theorem sfP_a46 : ∀ w, (isAgg (sfP_r.t 46)).run Tryz.prog w = .ok false w := fun w => by kernel_rfl
theorem sfP_z46 : ∀ w, (Go.sizeOf (sfP_r.t 46)).run Tryz.prog w = .ok 1 w := fun w => by kernel_rfl
theorem sfP_v46 : ∀ w, (zeroValue (sfP_r.t 46)).run Tryz.prog w = .ok (Value.tuple #[Value.int IntKind.i64 0, Value.int IntKind.i64 0]) w := fun w => by kernel_rfl
theorem sfP_t50 : Tryz.prog.underlying (sfP_r.t 50) = some (TypeDesc.tuple #[sfP_r.t 3, sfP_r.t 4]) := by kernel_rfl
theorem sfP_a50 : ∀ w, (isAgg (sfP_r.t 50)).run Tryz.prog w = .ok false w := fun w => by kernel_rfl
theorem sfP_z50 : ∀ w, (Go.sizeOf (sfP_r.t 50)).run Tryz.prog w = .ok 1 w := fun w => by kernel_rfl
theorem sfP_v50 : ∀ w, (zeroValue (sfP_r.t 50)).run Tryz.prog w = .ok (Value.tuple #[Value.int IntKind.i64 0, Value.bool false]) w := fun w => by kernel_rfl
theorem sfP_t53 : Tryz.prog.underlying (sfP_r.t 53) = some (TypeDesc.int IntKind.u32) := by kernel_rfl
theorem sfP_a53 : ∀ w, (isAgg (sfP_r.t 53)).run Tryz.prog w = .ok false w := fun w => by kernel_rfl
theorem sfP_z53 : ∀ w, (Go.sizeOf (sfP_r.t 53)).run Tryz.prog w = .ok 1 w := fun w => by kernel_rfl
theorem sfP_v53 : ∀ w, (zeroValue (sfP_r.t 53)).run Tryz.prog w = .ok (Value.int IntKind.u32 0) w := fun w => by kernel_rfl
theorem sfP_t55 : Tryz.prog.underlying (sfP_r.t 55) = some (TypeDesc.int IntKind.u64) := by kernel_rfl
theorem sfP_a55 : ∀ w, (isAgg (sfP_r.t 55)).run Tryz.prog w = .ok false w := fun w => by kernel_rfl
theorem sfP_z55 : ∀ w, (Go.sizeOf (sfP_r.t 55)).run Tryz.prog w = .ok 1 w := fun w => by kernel_rfl
theorem sfP_v55 : ∀ w, (zeroValue (sfP_r.t 55)).run Tryz.prog w = .ok (Value.int IntKind.u64 0) w := fun w => by kernel_rfl
theorem sfP_t66 : Tryz.prog.underlying (sfP_r.t 66) = some (TypeDesc.int IntKind.u64) := by kernel_rfl
theorem sfP_a66 : ∀ w, (isAgg (sfP_r.t 66)).run Tryz.prog w = .ok false w := fun w => by kernel_rfl
theorem sfP_z66 : ∀ w, (Go.sizeOf (sfP_r.t 66)).run Tryz.prog w = .ok 1 w := fun w => by kernel_rfl
theorem sfP_v66 : ∀ w, (zeroValue (sfP_r.t 66)).run Tryz.prog w = .ok (Value.int IntKind.u64 0) w := fun w => by kernel_rfl
theorem sfP_t70 : Tryz.prog.underlying (sfP_r.t 70) = some (TypeDesc.pointer (sfP_r.t 3)) := by kernel_rfl
theorem sfP_a70 : ∀ w, (isAgg (sfP_r.t 70)).run Tryz.prog w = .ok false w := fun w => by kernel_rfl
theorem sfP_z70 : ∀ w, (Go.sizeOf (sfP_r.t 70)).run Tryz.prog w = .ok 1 w := fun w => by kernel_rfl
theorem sfP_v70 : ∀ w, (zeroValue (sfP_r.t 70)).run Tryz.prog w = .ok (Value.pointer none) w := fun w => by kernel_rfl
theorem sfP_t76 : Tryz.prog.underlying (sfP_r.t 76) = some (TypeDesc.pointer (sfP_r.t 66)) := by kernel_rfl
theorem sfP_a76 : ∀ w, (isAgg (sfP_r.t 76)).run Tryz.prog w = .ok false w := fun w => by kernel_rfl
theorem sfP_z76 : ∀ w, (Go.sizeOf (sfP_r.t 76)).run Tryz.prog w = .ok 1 w := fun w => by kernel_rfl
theorem sfP_v76 : ∀ w, (zeroValue (sfP_r.t 76)).run Tryz.prog w = .ok (Value.pointer none) w := fun w => by kernel_rfl
theorem sfP_t77 : Tryz.prog.underlying (sfP_r.t 77) = some (TypeDesc.tuple #[sfP_r.t 3, sfP_r.t 3]) := by kernel_rfl
theorem sfP_a77 : ∀ w, (isAgg (sfP_r.t 77)).run Tryz.prog w = .ok false w := fun w => by kernel_rfl
theorem sfP_z77 : ∀ w, (Go.sizeOf (sfP_r.t 77)).run Tryz.prog w = .ok 1 w := fun w => by kernel_rfl
theorem sfP_v77 : ∀ w, (zeroValue (sfP_r.t 77)).run Tryz.prog w = .ok (Value.tuple #[Value.int IntKind.i64 0, Value.int IntKind.i64 0]) w := fun w => by kernel_rfl
theorem sfP_lay : SlLaysF0.n6 Tryz.prog sfP_r := { mixed := sfP_mixed, f6 := sfP_f6, f14 := sfP_f14, f15 := sfP_f15, f20 := sfP_f20, f21 := sfP_f21, f22 := sfP_f22, f23 := sfP_f23, f24 := sfP_f24, f25 := sfP_f25, f26 := sfP_f26, f27 := sfP_f27, f28 := sfP_f28, f29 := sfP_f29, f46 := sfP_f46, f47 := sfP_f47, f48 := sfP_f48, f49 := sfP_f49, f50 := sfP_f50, f57 := sfP_f57, t0 := sfP_t0, a0 := sfP_a0, z0 := sfP_z0, v0 := sfP_v0, t3 := sfP_t3, a3 := sfP_a3, z3 := sfP_z3, v3 := sfP_v3, t4 := sfP_t4, a4 := sfP_a4, z4 := sfP_z4, v4 := sfP_v4, t5 := sfP_t5, a5 := sfP_a5, z5 := sfP_z5, v5 := sfP_v5, t9 := sfP_t9, a9 := sfP_a9, z9 := sfP_z9, v9 := sfP_v9, t22 := sfP_t22, a22 := sfP_a22, z22 := sfP_z22, v22 := sfP_v22, t25 := sfP_t25, a25 := sfP_a25, z25 := sfP_z25, v25 := sfP_v25, t39 := sfP_t39, a39 := sfP_a39, z39 := sfP_z39, v39 := sfP_v39, t45 := sfP_t45, a45 := sfP_a45, z45 := sfP_z45, v45 := sfP_v45, t46 := sfP_t46, a46 := sfP_a46, z46 := sfP_z46, v46 := sfP_v46, t50 := sfP_t50, a50 := sfP_a50, z50 := sfP_z50, v50 := sfP_v50, t53 := sfP_t53, a53 := sfP_a53, z53 := sfP_z53, v53 := sfP_v53, t55 := sfP_t55, a55 := sfP_a55, z55 := sfP_z55, v55 := sfP_v55, t66 := sfP_t66, a66 := sfP_a66, z66 := sfP_z66, v66 := sfP_v66, t70 := sfP_t70, a70 := sfP_a70, z70 := sfP_z70, v70 := sfP_v70, t76 := sfP_t76, a76 := sfP_a76, z76 := sfP_z76, v76 := sfP_v76, t77 := sfP_t77, a77 := sfP_a77, z77 := sfP_z77, v77 := sfP_v77 }
end

section
set_option linter.all false
set_option maxRecDepth 100000
set_option maxHeartbeats 4000000
open Go.RowKit

abbrev int1 (n : Int) : List Value := [.int .i64 n]
abbrev RdInts := Rd int1 1
theorem RdInts.ne {w : World} {a : Option Addr} {l : List Int} (h : RdInts w a l) {k : Nat} (hk : k < l.length) :
    ∃ b off, a = some ⟨b, off, none⟩ ∧ b < w.heap.size ∧ w.cell? ⟨b, off + k, none⟩ = some (.int .i64 l[k]) := by
  obtain ⟨b, off, ha, hb, hc⟩ := Rd.ne h hk; exact ⟨b, off, ha, hb, by simpa using hc 0 _ rfl⟩
theorem rd_at1 {w : World} {b off : Nat} {l : List Int} (h : RdInts w (some ⟨b, off, none⟩) l) {k : Nat} (hk : k < l.length) {y : Int} (hy : l[k] = y) : w.cell? ⟨b, off + k, none⟩ = some (.int .i64 y) := by
  subst hy; obtain ⟨b', o', ha, _, h1⟩ := RdInts.ne h hk
  cases ha
  exact h1
def orL : List Int → Int
  | [] => 0
  | x :: l => if x ≠ 0 then x else orL l
theorem orL_found {l : List Int} : ∀ {i : Nat} (h : i < l.length), (∀ j, (hj : j < l.length) → j < i → l[j] = 0) → l[i] ≠ 0 → orL l = l[i] := by
  induction l with
  | nil => intro i h; simp at h
  | cons x l ih =>
    intro i h h1 h2; unfold orL
    cases i with
    | zero => simp at h2; simp [h2]
    | succ i =>
      have h0 := h1 0 (by simp) (by omega)
      simp at h0
      simp only [h0, ne_eq, not_true, if_false, List.getElem_cons_succ]
      exact ih (by simpa using h) (fun j hj hji => by have := h1 (j + 1) (by simp; omega) (by omega); simpa using this) (by simpa using h2)
theorem orL_zero {l : List Int} : (∀ j, (hj : j < l.length) → l[j] = 0) → orL l = 0 := by
  induction l with
  | nil => intro _; rfl
  | cons x l ih =>
    intro h; have h0 := h 0 (by simp)
    simp at h0
    unfold orL
    simp only [h0, ne_eq, not_true, if_false]
    exact ih (fun j hj => by have := h (j + 1) (by simp; omega); simpa using this)
def cmpS (a b : ByteArray) : Int := if Op.bytesLess a.toList b.toList then -1 else if Op.bytesLess b.toList a.toList then 1 else 0


set_option maxRecDepth 100000 in
set_option maxHeartbeats 1000000 in
theorem cmpOr_s (a : Option Addr) (c : Nat) (l : List Int) (w : World) (hR : RdInts w a l) (hl : l.length ≤ 1000) :
    Calls Tryz.prog 67 #[.slice a l.length c] w (fun e w' => e = .returned (.int .i64 (orL l)) ∧ w = w') := by
 have HR := hid hR; clear hR; have hww : w = w := rfl
 refine enter_F Tryz.func67 rfl Tryz.ntmps67 (by simp) ?_
 intro s0 hs; have sl0 : s0 0 = .slice a l.length c := hs 0 (by simp); clear hs; have HB := hid (OldB.refl [] w)
 repeat ((fail_if_success refine stp ?_); with_reducible go_step)
 refine region_F ?_; refine pl ?_; refine listF_abs (fun s1 z' => ?_); replace sl0 := gs 0 z' sl0; clear z'; refine listF_nil ?_
 repeat ((fail_if_success refine stp ?_); with_reducible go_step)
 refine region_F ?_; refine pl ?_; refine listF_abs (fun s2 z' => ?_); replace sl0 := gs 0 z' sl0; have sl3 := gu 3 z'; clear z'; refine listF_nil ?_
 repeat ((fail_if_success refine stp ?_); with_reducible go_step)
 refine region_F ?_
 iterate 3 refine pl ?_
 refine listF_abs (fun s3 z' => ?_); replace sl3 := gs 3 z' sl3; have sl6 := gu 6 z'; have sl7 := gu 7 z'; have sl8 := gu 8 z'; clear z' sl0; refine listF_nil ?_
 repeat ((fail_if_success refine stp ?_); with_reducible go_step)
 have hc0_3 := hid sl3; have hc0_6 := hid sl6; have hc0_7 := hid sl7; refine loop_F (n := 18) (fun kJ sJ wJ => ∃ (i : Nat), kJ = l.length - i ∧ sJ 8 = .int .i64 (i : Int) ∧ sJ 3 = s3 3 ∧ sJ 6 = s3 6 ∧ sJ 7 = s3 7 ∧ OldB [] w wJ ∧ i ≤ l.length ∧ Hid (w = wJ) ∧ (Hid (∀ j, (hj : j < l.length) → j < i → l[j] = 0))) ⟨0, rfl, (by first | exact sl8 | (rw [sl8]; go_num) | (rw [sl8]; rfl)), rfl, rfl, rfl, OldB.refl _ _, Nat.zero_le _, hid rfl, hid (fun j hj h => by omega)⟩ ?_; clear sl8; rintro kJ s4 w5 ⟨i, rfl, sl8, e3, e6, e7, hb6, hil, hww, Hz⟩; replace sl3 := e3.trans sl3; clear e3; replace sl6 := e6.trans sl6; clear e6; replace sl7 := e7.trans sl7; clear e7; have hoJ := hb6; replace HB := hid (HB.out.more hb6 (by simp; try omega)); clear hb6; have HoJ := hid hoJ; clear hoJ; have HL7 := HoJ; clear HoJ
 repeat ((fail_if_success refine stp ?_); with_reducible go_step)
 refine region_F ?_; refine pl ?_; refine listF_abs (fun s8 z' => ?_); replace sl3 := gs 3 z' sl3; replace sl6 := gs 6 z' sl6; replace sl7 := gs 7 z' sl7; replace sl8 := gs 8 z' sl8; have sl9 := gu 9 z'; clear z'; refine listF_nil ?_
 repeat ((fail_if_success refine stp ?_); with_reducible go_step)
 refine cond_E sl9 (by decide) ?_ ?_ <;> (clear sl9; intro h9 sl9)
 ·skip
  have hi : i < l.length := by simpa using h9
  have hii : (i : Int) < l.length := by omega
  obtain ⟨bx, ox, hax, hbx, cx⟩ := RdInts.ne (Rd.oldB HR.out HB.out (by simp)) hi; subst hax; obtain ⟨y, hy⟩ : ∃ y, l[i] = y := ⟨_, rfl⟩; rw [hy] at cx; have Hy := hid hy; clear hy
  repeat ((fail_if_success refine stp ?_); with_reducible go_step)
  refine region_F ?_
  iterate 3 refine pl ?_
  refine listF_abs (fun s9 z' => ?_); replace sl3 := gs 3 z' sl3; have sl5 := gu 5 z'; replace sl6 := gs 6 z' sl6; replace sl7 := gs 7 z' sl7; replace sl8 := gs 8 z' sl8; clear z' sl9; refine listF_nil ?_
  repeat ((fail_if_success refine stp ?_); with_reducible go_step)
  refine region_F ?_
  iterate 3 refine pl ?_
  refine listF_abs (fun s10 z' => ?_); replace sl3 := gs 3 z' sl3; replace sl5 := gs 5 z' sl5; replace sl6 := gs 6 z' sl6; replace sl7 := gs 7 z' sl7; replace sl8 := gs 8 z' sl8; have sl14 := gu 14 z'; clear z'; refine listF_nil ?_
  repeat ((fail_if_success refine stp ?_); with_reducible go_step)
  refine cond_E sl14 (by decide) ?_ ?_ <;> (clear sl14; intro h14 sl14)
  ·skip
   have hy0 : ¬ y = 0 := by simpa using h14
   have Hr := hid (show orL l = y by rw [orL_found hi Hz.out (by rw [Hy.out]; exact hy0), Hy.out])
   repeat ((fail_if_success refine stp ?_); with_reducible go_step)
   refine region_F ?_; refine pl ?_; refine pl ?_; refine listF_abs (fun s11 z' => ?_); have sl2 := gu 2 z'; clear z' sl3 sl5 sl6 sl7 sl8 sl14; refine listF_nil ?_
   repeat ((fail_if_success refine stp ?_); with_reducible go_step)
   refine ret_F _ (res_t Tryz.results67 ((getD_F (by decide)).trans sl2)) ?_; exact ⟨by rw [Hr.out], hww.out⟩
  ·skip
   have hy0 : y = 0 := by simpa using h14
   have Hy0 := hid hy0; clear hy0 h14
   repeat ((fail_if_success refine stp ?_); with_reducible go_step)
   refine region_F ?_; refine pl ?_; refine pl ?_; refine listF_abs (fun s12 z' => ?_); replace sl3 := gs 3 z' sl3; replace sl6 := gs 6 z' sl6; replace sl7 := gs 7 z' sl7; replace sl8 := gu 8 z'; clear z' sl5 sl14; refine listF_nil ?_
   repeat ((fail_if_success refine stp ?_); with_reducible go_step)
   refine ⟨_, _, rfl, ?_, i + 1, rfl, (by first | (with_reducible exact sl8) | (rw [sl8]; (with_reducible go_num); done) | (rw [sl8, IntWalk.i64_in] <;> first | ((with_reducible go_num); done) | omega) | (rw [sl8]; go_num; done) | (rw [sl8]; simp; done) | (rw [sl8]; simp; omega)), (sl3.trans hc0_3.out.symm), (sl6.trans hc0_6.out.symm), (sl7.trans hc0_7.out.symm), HL7.out, by omega, hww, hid (fun j hj h => by rcases Nat.lt_or_ge j i with h3 | h3 <;> first | exact Hz.out j hj h3 | (have e : j = i := (by omega); subst e; rw [Hy.out]; exact Hy0.out))⟩
   omega
 ·skip
  have hi : i = l.length := by have h := h9; simp at h; omega
  have Hr := hid (orL_zero (l := l) (fun j hj => Hz.out j hj (by omega)))
  repeat ((fail_if_success refine stp ?_); with_reducible go_step)
  clear HL7; clear hc0_3 hc0_6 hc0_7; refine region_F ?_; refine pl ?_; refine pl ?_; refine listF_abs (fun s13 z' => ?_); have sl2 := gu 2 z'; clear z' sl3 sl6 sl7 sl8 sl9; refine listF_nil ?_
  repeat ((fail_if_success refine stp ?_); with_reducible go_step)
  refine ret_F _ (res_t Tryz.results67 ((getD_F (by decide)).trans sl2)) ?_; exact ⟨by rw [Hr.out], hww.out⟩

/-- a world that left old memory alone is one that has grown, behind draws -/
theorem ex_growP {W w' : World} (h : Below W.heap.size W w') (hd : W.drawn ≤ w'.drawn) : ∃ q os', w' = Go.Sort.grow (W.drewN q) os' := by
  refine ⟨w'.drawn - W.drawn, w'.heap.extract W.heap.size w'.heap.size, ?_⟩
  obtain ⟨hp, tp, dr, os, out⟩ := w'
  obtain ⟨hp0, tp0, dr0, os0, out0⟩ := W
  have h1 := h.os; have h2 := h.tape; have h3 := h.output; have h4 := h.size; have h5 := h.block
  simp only at h1 h2 h3 h4 h5 hd
  subst h1; subst h2; subst h3
  have e1 : dr = dr0 + (dr - dr0) := by omega
  have e2 : hp = hp0 ++ hp.extract hp0.size hp.size := by
    apply Array.ext_getElem?
    intro k
    rw [Array.getElem?_append]
    split
    · rename_i hk; exact h5 k hk
    · rename_i hk
      rw [Array.getElem?_extract]
      split
      · congr 1; omega
      · rename_i hk2
        rw [Array.getElem?_eq_none (by omega)]
  show World.mk hp tp dr os out = World.mk (hp0 ++ hp.extract hp0.size hp.size) tp (dr0 + (dr - dr0)) os out
  rw [← e1, ← e2]

theorem idx_div {k j n : Nat} (h : j < n * k) : j / k < n ∧ j % k < k ∧ j / k * k + j % k = j := by
  have hk : 0 < k := by rcases Nat.eq_zero_or_pos k with e | e; subst e; simp at h; exact e
  refine ⟨(Nat.div_lt_iff_lt_mul hk).2 h, Nat.mod_lt _ hk, ?_⟩
  rw [Nat.mul_comm]; exact Nat.div_add_mod j k
theorem flat_inv {β : Type} {f : β → List Value} {k : Nat} (hk : ∀ x, (f x).length = k) : ∀ (l : List β) (t : Nat) (v : Value), (l.flatMap f)[t]? = some v → t < l.length * k
  | [], t, v, h => by simp at h
  | x :: l, t, v, h => by
    rw [List.flatMap_cons] at h
    by_cases ht : t < k
    · rw [List.length_cons, Nat.add_mul, Nat.one_mul]; omega
    · rw [List.getElem?_append_right (by rw [hk]; omega), hk] at h
      have := flat_inv hk l _ _ h
      rw [List.length_cons, Nat.add_mul, Nat.one_mul]; omega
theorem flat_at {β : Type} [Inhabited β] {f : β → List Value} {k : Nat} (hk : ∀ x, (f x).length = k) (l : List β) {t : Nat} (h : t < l.length * k) : (l.flatMap f)[t]? = some (f l.toArray[t / k]!)[t % k]! := by
  obtain ⟨h1, h2, h3⟩ := idx_div h
  have e1 : l.toArray[t / k]! = l[t / k] := by simp [h1]
  have := flat_get f k hk l (t / k) l[t / k] (List.getElem?_eq_getElem h1) (t % k) (f l[t / k])[t % k]! (by rw [getElem!_pos _ _ (by rw [hk]; exact h2)]; exact List.getElem?_eq_getElem _)
  rw [h3] at this
  rw [this, e1]
theorem holds_of_cells {β : Type} [Inhabited β] {f : β → List Value} {k : Nat} (hk : ∀ x, (f x).length = k) {w : World} {b : Nat} {l : List β} (h : Cells w b (l.flatMap f)) : Go.Sort.HoldsK f k w b 0 l.toArray := by
  intro t ht
  rw [Go.Sort.size_flatK] at ht
  have ht' : t < l.length * k := by simpa using ht
  rw [Nat.zero_add]
  refine ⟨?_, h.2.2 t⟩
  rw [h.2.1 t _ (flat_at hk l ht'), Go.Sort.get_flatK _ _ _ _ ht]; rfl
theorem cells_of_holds {β : Type} [Inhabited β] {f : β → List Value} {k : Nat} (hk : ∀ x, (f x).length = k) {w : World} {b : Nat} {d : Array β} (hb : b < w.heap.size) (hf : ∀ o, w.frozen? ⟨b, o, none⟩ = false) (h : Go.Sort.HoldsK f k w b 0 d) : Cells w b (d.toList.flatMap f) := by
  refine ⟨hb, fun t v hv => ?_, hf⟩
  have ht := flat_inv hk _ _ _ hv
  have ht' : t < (Go.Sort.flatK f k d).size := by rw [Go.Sort.size_flatK]; simpa using ht
  have h1 := (h t ht').1
  rw [Nat.zero_add, Go.Sort.get_flatK _ _ _ _ (by simpa using ht)] at h1
  rw [flat_at hk _ ht] at hv
  rw [h1, ← hv]; rfl
theorem sortW_old {β : Type} [Inhabited β] (f : β → List Value) (k : Nat) (w : World) (b n : Nat) (d : Array β) (os : Array Obj) : OldB [b] w (sortWorldK f k w b 0 n d os) ∧ (b < w.heap.size → (∀ o, w.frozen? ⟨b, o, none⟩ = false) → ∀ o, (sortWorldK f k w b 0 n d os).frozen? ⟨b, o, none⟩ = false) := by
  have hsz : (Go.Sort.putRowK f k (Go.Sort.ahead w n) b 0 d).heap.size = w.heap.size := by
    show (Go.Sort.putRow id (Go.Sort.ahead w n) b 0 _).heap.size = _
    rw [Go.Sort.size_putRow]; rfl
  refine ⟨⟨rfl, rfl, rfl, ?_, fun c hc hn => ?_⟩, fun hb hf o => ?_⟩
  · show w.heap.size ≤ ((Go.Sort.putRowK f k (Go.Sort.ahead w n) b 0 d).heap ++ os).size
    rw [Array.size_append, hsz]; omega
  · show ((Go.Sort.putRowK f k (Go.Sort.ahead w n) b 0 d).heap ++ os)[c]? = _
    rw [Array.getElem?_append, if_pos (by rw [hsz]; exact hc)]
    show (w.heap.modify b _)[c]? = _
    rw [Array.getElem?_modify, if_neg (fun e => hn (by simp [e]))]
  · have h1 : (Go.Sort.grow (Go.Sort.putRowK f k (Go.Sort.ahead w n) b 0 d) os).frozen? ⟨b, o, none⟩ = (Go.Sort.putRowK f k (Go.Sort.ahead w n) b 0 d).frozen? ⟨b, o, none⟩ := by
      refine frozBk ?_
      show ((Go.Sort.putRowK f k (Go.Sort.ahead w n) b 0 d).heap ++ os)[b]? = _
      rw [Array.getElem?_append, if_pos (by rw [hsz]; exact hb)]
    show (Go.Sort.grow (Go.Sort.putRowK f k (Go.Sort.ahead w n) b 0 d) os).frozen? ⟨b, o, none⟩ = false
    rw [h1]
    show (Go.Sort.putRow id (Go.Sort.ahead w n) b 0 _).frozen? ⟨b, o, none⟩ = false
    rw [Go.Sort.frozen?_putRow]; exact hf o
theorem perm_of {β : Type} [Inhabited β] {d d' : Array β} (h : Go.Sort.PermIn 0 d.size d d') : d'.toList.Perm d.toList := by
  have h3 := h.2.2
  have e1 : d'.extract 0 d.size = d' := by rw [← h.1]; simp
  have e2 : d.extract 0 d.size = d := by simp
  rwa [e1, e2] at h3
theorem pair_of {β : Type} [Inhabited β] {lt : β → β → Bool} {d : Array β} {n : Nat} (hn : n = d.size) (h : Go.Sort.SortedIn lt 0 n d) : d.toList.Pairwise (fun x y => lt y x = false) := by
  rw [List.pairwise_iff_getElem]
  intro i j hi hj hij
  have := h i j (Nat.zero_le _) hij (by rw [hn]; simpa using hj)
  rw [getElem!_pos d j (by simpa using hj), getElem!_pos d i (by simpa using hi)] at this
  simpa using this
/-- slices.SortFunc, over cells -/
theorem sort_row {P : Program} {ρ : Go.Shelf.Ren} {β : Type} [Inhabited β] (L : SlLaysF0.n6 P ρ) (k : Nat) (aE : ∀ w, (isAgg (ρ.t 24)).run P w = .ok true w) (zE : ∀ w, (Go.sizeOf (ρ.t 24)).run P w = .ok k w) (f : β → List Value) (hk : ∀ x, (f x).length = k) (h1 : ∀ x, ∀ v ∈ f x, v.oneCell' = true) (cf : β → β → Int) (hO : Go.Sort.SWO (ltOf cf)) (g : Nat) (cb : Array Value)
    (eg : ∀ args w, (callFunc g args).run P w = .ok (.enter g args) w) (hcmp : ∀ x y W, Calls P g (#[.agg (f x).toArray, .agg (f y).toArray] ++ cb) W fun e w' => e = .returned (.int .i64 (cf x y)) ∧ ∃ q os', w' = Go.Sort.grow (W.drewN q) os') (b cap : Nat) (l : List β) (w : World) (hC : Cells w b (l.flatMap f)) (hsz : l.length < 4611686018427387904) :
    Calls P (ρ.f 6) #[.slice (some ⟨b, 0, none⟩) l.length cap, .func (.func g) #[] cb] w fun e w' => e = .returned (.tuple #[]) ∧ ∃ m : List β, m.Perm l ∧ m.Pairwise (fun x y => ltOf cf y x = false) ∧ Cells w' b (m.flatMap f) ∧ OldB [b] w w' := by
  have hH := holds_of_cells hk hC
  have hb := hC.1
  have := AnyQ.slices_SortFunc L k aE zE f hk h1 cf hO g cb b 0 cap l.toArray w eg (fun _ _ _ _ x y => hcmp x y _) hH hb (by simpa using hsz)
  rw [List.size_toArray] at this
  refine this.mono ?_
  rintro e w' ⟨rfl, d', n, os, hp, hs, rfl⟩
  have hp' : Go.Sort.PermIn 0 l.toArray.size l.toArray d' := by rw [List.size_toArray]; exact hp
  have hsd : d'.size = l.toArray.size := hp.1
  obtain ⟨ho, hfz⟩ := sortW_old f k w b n d' os
  refine ⟨rfl, d'.toList, perm_of hp', pair_of (by rw [hsd, List.size_toArray]) hs, ?_, ho⟩
  refine cells_of_holds hk (Nat.lt_of_lt_of_le hb ho.size) (hfz hb hC.2.2) ?_
  exact SWK.holds ⟨n, os, rfl⟩ hb hH hsd


/-- numbers of a pair that the comparison can tell -/
def LaB (x : LaP) : Prop := (-1000000 ≤ x.path ∧ x.path ≤ 1000000) ∧ (-1000000 ≤ x.fr ∧ x.fr ≤ 1000000) ∧ (-1000000 ≤ x.tt ∧ x.tt ≤ 1000000)
def cmpP (x y : LaP) : Int := orL [x.path - y.path, x.fr - y.fr, y.tt - x.tt]
theorem sort1_ex (x y : LaP) (hx : LaB x) (hy : LaB y) (W : World) : Calls Tryz.prog 99 #[.agg #[.int .i64 x.path, .int .i64 x.fr, .int .i64 x.tt], .agg #[.int .i64 y.path, .int .i64 y.fr, .int .i64 y.tt]] W fun e w' => e = .returned (.int .i64 (cmpP x y)) ∧ ∃ q os', w' = Go.Sort.grow (W.drewN q) os' := by
  obtain ⟨⟨a1, a2⟩, ⟨a3, a4⟩, a5, a6⟩ := hx; obtain ⟨⟨b1, b2⟩, ⟨b3, b4⟩, b5, b6⟩ := hy; have w1 : IntKind.i64.wrap (x.path - y.path) = x.path - y.path := IntWalk.i64_in _ (by omega); have w2 : IntKind.i64.wrap (x.fr - y.fr) = x.fr - y.fr := IntWalk.i64_in _ (by omega); have w3 : IntKind.i64.wrap (y.tt - x.tt) = y.tt - x.tt := IntWalk.i64_in _ (by omega)
  have hcon : ∀ (B : Nat) (T : TypeId) (W' : World), B = W'.heap.size → Calls Tryz.prog 67 #[.slice (some ⟨B, 0, none⟩) 3 3] (W'.alloc (.cells #[.int .i64 (x.path - y.path), .int .i64 (x.fr - y.fr), .int .i64 (y.tt - x.tt)] T)) fun e w' => e = .returned (.int .i64 (cmpP x y)) ∧ W'.alloc (.cells #[.int .i64 (x.path - y.path), .int .i64 (x.fr - y.fr), .int .i64 (y.tt - x.tt)] T) = w' := by
    intro B T W' hB; subst hB; exact cmpOr_s (some ⟨W'.heap.size, 0, none⟩) 3 [x.path - y.path, x.fr - y.fr, y.tt - x.tt] _ (Cells.rd (f := int1) (m := 1) (fun _ => rfl) (Cells.newL (l := [.int .i64 (x.path - y.path), .int .i64 (x.fr - y.fr), .int .i64 (y.tt - x.tt)]))) (by simp)
  clear a1 a2 a3 a4 a5 a6 b1 b2 b3 b4 b5 b6
  generalize cmpP x y = r at hcon ⊢
  go_enter Tryz.func99, Tryz.ntmps99
  go_wp2_with (go_at_call 67; refine (hcon _ _ _ (by simp)).mono ?_; rintro e w' ⟨rfl, rfl⟩)
  go_ret
  exact ⟨rfl, 0, _, by rw [Go.Sort.alloc_eq_grow, Go.Sort.alloc_eq_grow, Go.Sort.alloc_eq_grow, Go.Sort.grow_grow, Go.Sort.grow_grow]; rfl⟩
end

section
set_option linter.all false
set_option pp.maxSteps 100000
set_option maxRecDepth 100000
set_option maxHeartbeats 4000000
open Go.RowKit

abbrev LaS := {x : LaP // LaB x}
instance : Inhabited LaS := ⟨⟨⟨0, 0, 0⟩, by simp [LaB]⟩⟩
theorem ltP_eq (x y : LaP) : decide (cmpP x y < 0) = ltP x y := by
  rw [Bool.eq_iff_iff, decide_eq_true_eq, ltP_iff]; unfold cmpP orL orL orL orL
  by_cases h1 : x.path - y.path = 0 <;> by_cases h2 : x.fr - y.fr = 0 <;> by_cases h3 : y.tt - x.tt = 0 <;> simp [h1, h2, h3] <;> omega
theorem ltS_eq (x y : LaS) : ltOf (fun a b : LaS => cmpP a.1 b.1) x y = ltP x.1 y.1 := ltP_eq x.1 y.1
theorem swoP : Go.Sort.SWO (ltOf (fun a b : LaS => cmpP a.1 b.1)) where
  irrefl x := by rw [ltS_eq, ltP_false]; omega
  trans x y z h1 h2 := by rw [ltS_eq] at *; rw [ltP_iff] at *; omega
  ntrans x y z h1 h2 := by rw [ltS_eq] at *; rw [ltP_false] at *; omega
theorem pmap_val {β : Type} {p : β → Prop} : ∀ (l : List β) (h : ∀ x ∈ l, p x), (l.pmap Subtype.mk h).map Subtype.val = l := by
  intro l h; rw [List.map_pmap]; simp
theorem flat_map {β : Type} {p : β → Prop} (f : β → List Value) : ∀ (l : List {x // p x}), l.flatMap (fun x => f x.1) = (l.map Subtype.val).flatMap f
  | [] => rfl
  | x :: l => by rw [List.flatMap_cons, List.map_cons, List.flatMap_cons, flat_map f l]
theorem sortF_cells (b cap : Nat) (l : List LaP) (w : World) (hl : ∀ x ∈ l, LaB x) (hC : Cells w b (l.flatMap LaP.cs)) (hsz : l.length ≤ 100000) :
    Calls Tryz.prog 98 #[.slice (some ⟨b, 0, none⟩) l.length cap, .func (.func 99) #[] #[]] w (fun e w' => e = .returned (.tuple #[]) ∧ Cells w' b ((srtP l).flatMap LaP.cs) ∧ OldB [b] w w') := by
  have hC' : Cells w b ((l.pmap Subtype.mk hl).flatMap (fun x : LaS => LaP.cs x.1)) := by rw [flat_map, pmap_val]; exact hC
  have hlen : (l.pmap Subtype.mk hl).length = l.length := by simp
  have := sort_row (β := LaS) sfP_lay 3 (fun w => by kernel_rfl) (fun w => by kernel_rfl) (fun x => LaP.cs x.1) (fun _ => rfl) (fun x => LaP.one x.1) (fun a b => cmpP a.1 b.1) swoP 99 #[] (fun _ _ => rfl) (fun x y W => by rw [Array.append_empty]; exact sort1_ex x.1 y.1 x.2 y.2 W) b cap (l.pmap Subtype.mk hl) w hC' (by rw [hlen]; omega)
  rw [hlen] at this
  refine Calls.mono (h := this) ?_
  rintro e w' ⟨rfl, m, hp, hs, hc, ho⟩
  have e : m.map Subtype.val = srtP l := by
    refine srtP_eq ?_ ?_
    · have := hp.map Subtype.val; rwa [pmap_val] at this
    · unfold SrtP; rw [List.pairwise_map]; exact hs.imp (fun h => by rw [ltS_eq] at h; exact h)
  refine ⟨rfl, ?_, ho⟩
  rw [← e, ← flat_map]; exact hc
theorem bitsLen0 (w : World) : Calls Tryz.prog 125 #[.int .u64 0] w fun e w' => e = .returned (.int .i64 ((Lib.bitLen 0 : Nat) : Int)) ∧ Below w.heap.size w w' := by
  have h := Any.bits_Len (SlLaysF0.n15.bits (P := Tryz.prog) (ρ := sfP_r) { sfP_lay with }) (0 : Int) w (by omega) (by omega)
  exact h.mono fun e w' h => ⟨h.1, h.2 ▸ Below.refl _ _⟩
theorem insNil_v (q : Value) (w : World) : Calls Tryz.prog 141 #[.slice none 0 0, .int .i64 0, .int .i64 0, q] w (fun e w' => e = .returned (.tuple #[]) ∧ Below w.heap.size w w') := by
  refine go_in Tryz.func141 rfl Tryz.ntmps141 [] [] (Mem.start _) ?_
  refine go ?_
  refine go_loop (X := Unit) (fun _ => True) (fun _ => 0) (fun _ => [(8, .int .i64 1)]) (fun _ => []) () [0, 1, 2] trivial ⟨fun g => rfl, trivial⟩ sb (fun i hi => ?_)
  refine go ?_
  exact end0 (fun w' hw => ⟨rfl, hw.below⟩)
theorem pdqNil_v (q : Value) (n : Int) (w : World) : Calls Tryz.prog 124 #[.slice none 0 0, .int .i64 0, .int .i64 0, .int .i64 n, q] w (fun e w' => e = .returned (.tuple #[]) ∧ Below w.heap.size w w') := by
  refine go_in Tryz.func124 rfl Tryz.ntmps124 [] [] (Mem.start _) ?_
  refine go ?_
  refine go_loop (X := Unit) (fun _ => True) (fun _ => 0) (fun _ => [(1, .int .i64 0), (2, .int .i64 0), (0, .slice none 0 0), (4, q)]) (fun _ => []) () [] trivial ⟨fun g => rfl, fun g => rfl, fun g => rfl, fun g => rfl, trivial⟩ sb (fun i hi => ?_)
  refine go ?_
  refine GoL.cv (fun w' hw => insNil_v q w') ?_
  refine go ?_
  exact end0 (fun w' hw => ⟨rfl, hw.below⟩)
theorem sortNil_v (q : Value) (w : World) : Calls Tryz.prog 98 #[.slice none 0 0, q] w (fun e w' => e = .returned (.tuple #[]) ∧ Below w.heap.size w w') := by
  refine go_in Tryz.func98 rfl Tryz.ntmps98 [] [] (Mem.start _) ?_
  refine go ?_
  refine GoL.cv (fun w' hw => bitsLen0 w') ?_
  refine go ?_
  refine GoL.cv (fun w' hw => pdqNil_v q _ w') ?_
  refine go ?_
  exact end0 (fun w' hw => ⟨rfl, hw.below⟩)
theorem sortF_v {w0 w : World} {Bs : List Nat} {F : List En} (l : List LaP) (a : Option Addr) (c : Nat) (hm : Mem w0 Bs (.own LaP.cs 3 83 (.slice a l.length c) l :: F) w) (hl : ∀ x ∈ l, LaB x) (hn : l.length ≤ 100000) :
    Calls Tryz.prog 98 #[.slice a l.length c, .func (.func 99) #[] #[]] w (fun e w' => ∃ u : Unit, e = .returned (.tuple #[]) ∧ Mem w0 Bs (.rd LaP.cs 3 a (srtP l) :: F) w') := by
  have ho := hm.own .here
  obtain ⟨_, ⟨hs, hl0⟩ | ⟨g, cap, cur, hs, _⟩⟩ := ho
  · simp only [Value.slice.injEq] at hs
    obtain ⟨rfl, h2, rfl⟩ := hs
    obtain rfl : l = [] := List.eq_nil_of_length_eq_zero h2
    refine (sortNil_v _ w).mono fun e w' ⟨he, hb⟩ => ⟨(), he, (hm.call hb).to .here fun S hS => ⟨fun b h => absurd rfl h, .inl rfl⟩⟩
  · simp only [Value.slice.injEq] at hs
    obtain ⟨rfl, h2, rfl⟩ := hs
    have hc : Cells w g (l.flatMap LaP.cs) := (hm.own .here).toCells
    refine (sortF_cells g c l w hl hc hn).mono fun e w' ⟨he, h1, hb⟩ => ⟨(), he, hm.rep .here fun S hS hlt => ?_⟩
    have hg : S g := hS.1 g rfl
    refine ⟨hb.os, hb.tape, hb.output, hb.size, fun k hk hn => hb.block k hk (fun e => hn (by rw [List.mem_singleton.1 e]; exact hg)), fun b _ hb' => ?_, Cells.rd (f := LaP.cs) (m := 3) (fun _ => rfl) h1⟩
    cases hb'
    exact ⟨.inl hg, Nat.lt_of_lt_of_le hc.1 hb.size⟩
theorem sort_v {w0 w : World} {Bs : List Nat} {F : List En} (l : List LaP) (a : Option Addr) (c : Nat) (hm : Mem w0 Bs (.own LaP.cs 3 83 (.slice a l.length c) l :: F) w) (hl : ∀ x ∈ l, LaB x) (hn : l.length ≤ 100000) :
    Calls Tryz.prog 50 #[.slice a l.length c] w (fun e w' => ∃ u : Unit, e = .returned (.slice a l.length c) ∧ Mem w0 Bs (.rd LaP.cs 3 a (srtP l) :: F) w') := by
  refine go_in0 Tryz.func50 rfl Tryz.ntmps50 hm ?_
  refine go ?_
  refine GoL.cm (fun w' hw => sortF_v l a c hw hl hn) (fun _ => ?_)
  refine go ?_
  exact end1 (fun w' hw => ⟨(), rfl, hw⟩)
end

section
set_option linter.all false
set_option pp.maxSteps 100000
set_option maxRecDepth 100000
set_option maxHeartbeats 4000000
open Go.RowKit

def evsE (t : TD) (i : Nat) : List Evt := lx (openE t) i
def itE (t : TD) (i k : Nat) : Int := (lx (evsE t i) k).item
/-- the pairs of a path's proof -/
def pathPr (t : TD) (i : Nat) : List LaP := (prsL (itE t i) (evsE t i).length).map fun q => LaP.mk i q.1 q.2
def pairsTo (t : TD) : Nat → List LaP
  | 0 => []
  | i + 1 => pairsTo t i ++ pathPr t i
def boundTo (t : TD) : Nat → Int
  | 0 => 0
  | i + 1 => boundTo t i + (lx t.ps i).cnt * Dv (itE t i) 0 ((evsE t i).length - 1)
def boundL (t : TD) : List LaP := srtP (pairsTo t t.ps.length)
def boundN (t : TD) : Int := boundTo t t.ps.length
theorem evs_eq {x : PD} (he : x.es.map (·.l) = openE x.t) {i : Nat} (hi : i < x.es.length) : (lx x.es i).l = evsE x.t i := by rw [evsE, ← he, lx_map hi]
theorem pathPr_ok {t : TD} {i : Nat} (h : 1 ≤ (evsE t i).length ∧ (evsE t i).length ≤ 93) : (pathPr t i).length ≤ 183 ∧ ∀ p ∈ pathPr t i, p.path = i ∧ 0 ≤ p.fr ∧ p.fr < p.tt ∧ p.tt < (evsE t i).length := by
  constructor
  · have := prs_len (it := itE t i) (2 * (evsE t i).length) true 0 ((evsE t i).length - 1) (Nat.zero_le _) (fun h => by cases h)
    simp only [if_true] at this
    simp only [pathPr, List.length_map, prsL]; omega
  · intro p hp
    obtain ⟨q, hq, rfl⟩ := List.mem_map.1 hp
    have := prs_ok (it := itE t i) _ true 0 ((evsE t i).length - 1) (Nat.zero_le _) (fun h => by cases h) q hq
    refine ⟨rfl, ?_, ?_, ?_⟩ <;> dsimp only <;> omega
theorem pairsTo_ok {t : TD} : ∀ n, (∀ i, i < n → 1 ≤ (evsE t i).length ∧ (evsE t i).length ≤ 93) → (pairsTo t n).length ≤ 183 * n ∧ ∀ p ∈ pairsTo t n, 0 ≤ p.path ∧ p.path < n ∧ 0 ≤ p.fr ∧ p.fr < p.tt ∧ p.tt < (evsE t p.path.toNat).length
  | 0, _ => ⟨by simp [pairsTo], fun p hp => by simp [pairsTo] at hp⟩
  | n + 1, h => by
    have ih := pairsTo_ok n fun i hi => h i (by omega)
    have h1 := pathPr_ok (h n (by omega))
    refine ⟨by simp only [pairsTo, List.length_append]; omega, fun p hp => ?_⟩
    rcases List.mem_append.1 hp with hp | hp
    · have := ih.2 p hp; exact ⟨this.1, by omega, this.2.2⟩
    · have := h1.2 p hp
      have e : p.path.toNat = n := by omega
      rw [e]; omega
theorem boundTo_bd {t : TD} : ∀ n, (∀ i, i < n → (1 ≤ (evsE t i).length ∧ (evsE t i).length ≤ 93) ∧ 1 ≤ (lx t.ps i).cnt ∧ (lx t.ps i).cnt ≤ 1000) → 0 ≤ boundTo t n ∧ boundTo t n ≤ 2000000 * n
  | 0, _ => by simp [boundTo]
  | n + 1, h => by
    have ih := boundTo_bd n fun i hi => h i (by omega)
    have h1 := h n (by omega)
    have h2 := Dv_bd (it := itE t n) (y := (evsE t n).length - 1) (by omega) 0
    have h3 : 0 ≤ (lx t.ps n).cnt * Dv (itE t n) 0 ((evsE t n).length - 1) := Int.mul_nonneg (by omega) h2.1
    have h4 : (lx t.ps n).cnt * Dv (itE t n) 0 ((evsE t n).length - 1) ≤ 1000 * 2000 := Int.mul_le_mul h1.2.2 h2.2 h2.1 (by omega)
    simp only [boundTo]; push_cast; omega
theorem Bound_bad (t : TD) (p i e : Int) (w : World) (hn : t.Len) (hT : t.At w) (hr : chkL t = (p, i, e)) (he : ¬ e = 0) :
    Calls Tryz.prog 16 #[.agg #[.slice t.ao t.os.length t.co, .int .i64 t.data, .int .i64 t.lines, .slice t.ap t.ps.length t.cp]] w (fun e' w' => e' = .returned (.tuple #[.slice none 0 0, .int .i64 0, .int .i64 e]) ∧ Below w.heap.size w w') := by
  refine go_in Tryz.func16 rfl Tryz.ntmps16 [] [] (Mem.start _) ?_
  refine go ?_
  refine GoL.a (fun b1 => ?_)
  refine go ?_
  refine GoL.cv (fun w' hw => open_bad t p i e w' hn (hT.old hw) hr he) ?_
  refine go ?_
  refine go_if (fun h => ?_) (fun h => ?_)
  rotate_left
  · exact absurd h he
  refine go ?_
  exact ev3 ⟨rfl, rfl, rfl⟩
theorem Bound_ok (t : TD) (p i : Int) (w : World) (hn : t.Len) (hT : t.At w) (hr : chkL t = (p, i, 0)) :
    Calls Tryz.prog 16 #[.agg #[.slice t.ao t.os.length t.co, .int .i64 t.data, .int .i64 t.lines, .slice t.ap t.ps.length t.cp]] w (Ret (fun q : Option Addr × Nat => .tuple #[.slice q.1 (boundL t).length q.2, .int .i64 (boundN t), .int .i64 0]) (fun q => [.rd LaP.cs 3 q.1 (boundL t)]) w) := by
  refine go_in Tryz.func16 rfl Tryz.ntmps16 [] [] (Mem.start _) ?_
  refine go ?_
  refine GoL.a (fun b1 => ?_)
  refine go ?_
  refine GoL.c (fun w' hw => open_ok t p i w' hn (hT.old hw) hr) (fun x => ?_)
  obtain ⟨x, b⟩ := x
  refine GoL.pure (fun hx => ?_)
  dsimp only at hx ⊢
  obtain ⟨rfl, hes, hcap⟩ := hx
  have hok := plan_ok (chkL_ok hr) hes hcap
  have hxl := hid hok.e1
  have hp1 := hok.p1
  have htp := hT.p
  have hev : ∀ i, i < x.t.ps.length → (lx x.es i).l = evsE x.t i := fun i hi => evs_eq hes (by have := hxl.out; omega)
  have hel : ∀ i, i < x.t.ps.length → 1 ≤ (evsE x.t i).length ∧ (evsE x.t i).length ≤ 93 := fun i hi => by
    have h1 : evsE x.t i = pathE x.t.os (lx x.t.ps i).os := by rw [evsE, openE, lx_map hi]
    rw [h1]; exact pathE_len _ _ (wildL_ok ((chkL_ok hr).w _ (lx_mem hi))).1.2
  have hcn : ∀ i, i < x.t.ps.length → 1 ≤ (lx x.t.ps i).cnt ∧ (lx x.t.ps i).cnt ≤ 1000 := fun i hi => hok.cnt _ (lx_mem hi)
  refine go ?_
  refine GoC.mem (fun w hw => Mem.own0 LaP.cs 3 83 hw) ?_
  refine go_loop (X := Nat × Option Addr × Nat) (fun q => q.1 ≤ x.t.ps.length) (fun q => x.t.ps.length - q.1) (fun q => [(20, .int .i64 q.1), (2, .slice q.2.1 (pairsTo x.t q.1).length q.2.2), (3, .int .i64 (boundTo x.t q.1))])
    (fun q => [.own LaP.cs 3 83 (.slice q.2.1 (pairsTo x.t q.1).length q.2.2) (pairsTo x.t q.1), .plan x b, .cells b1 [.slice x.t.ao x.t.os.length x.t.co, .int .i64 x.t.data, .int .i64 x.t.lines, .slice x.t.ap x.t.ps.length x.t.cp]]) (0, none, 0) [1, 4, 5, 18, 19] (Nat.zero_le _) (by simp [AgreeL, At, pairsTo, boundTo]) sb (fun q hq => ?_)
  obtain ⟨k, al, cl⟩ := q
  dsimp only at hq ⊢
  refine go ?_
  refine go_if (fun h => ?_) (fun h => ?_)
  · have hk : k < x.t.ps.length := by omega
    have hE := hel k hk
    refine go ?_
    refine GoL.a (fun b7 => ?_)
    refine go ?_
    refine GoL.c (fun w' hw => prove_v x b k w' (hw.plan pk (hT.old hw)) hok (by have := hxl.out; omega)) (fun r => ?_)
    obtain ⟨b8, bd, br⟩ := r
    have hb1 := boundTo_bd k fun i hi => ⟨hel i (by omega), hcn i (by omega)⟩
    have hpl := pairsTo_ok k fun i hi => hel i (by omega)
    obtain ⟨X, hX⟩ : ∃ X : PR, X = ⟨(lx x.es k).l, (lx x.es k).a, (lx x.es k).c, bd, br, (k : Int)⟩ := ⟨_, rfl⟩
    have el : (lx x.es k).l = X.l := by rw [hX]
    have ea : (lx x.es k).a = X.ae := by rw [hX]
    have ec : (lx x.es k).c = X.ce := by rw [hX]
    have ed : bd = X.bd := by rw [hX]
    have er : br = X.br := by rw [hX]
    have ei : (k : Int) = X.idx := by rw [hX]
    have eE : X.l = evsE x.t k := by rw [← el, hev k hk]
    have HE := hid eE
    have hXl : 1 ≤ X.l.length ∧ X.l.length ≤ 93 := by rw [eE]; exact hE
    have hrd : ∀ w', Mem w [] [.cells b7 [.slice (lx x.t.ps k).a (lx x.t.ps k).os.length (lx x.t.ps k).c, .int .i64 (lx x.t.ps k).cnt], .own LaP.cs 3 83 (.slice al (pairsTo x.t k).length cl) (pairsTo x.t k), .plan x b, .cells b1 [.slice x.t.ao x.t.os.length x.t.co, .int .i64 x.t.data, .int .i64 x.t.lines, .slice x.t.ap x.t.ps.length x.t.cp]] w' → Rd Evt.cs 2 w' X.ae X.l := fun w' hw => by
      rw [← el, ← ea]; exact (hw.plan pk (hT.old hw)).q _ (lx_mem (by have := hxl.out; omega))
    refine GoL.mem (H' := .cells b8 (X.cs (.slice none 0 0)) :: .map2 X.bd (100 * X.l.length) (dF X.it X.l.length) :: .map2 X.br (100 * X.l.length) (rF X.it X.l.length) :: [.cells b7 [.slice (lx x.t.ps k).a (lx x.t.ps k).os.length (lx x.t.ps k).c, .int .i64 (lx x.t.ps k).cnt], .own LaP.cs 3 83 (.slice al (pairsTo x.t k).length cl) (pairsTo x.t k), .plan x b, .cells b1 [.slice x.t.ao x.t.os.length x.t.co, .int .i64 x.t.data, .int .i64 x.t.lines, .slice x.t.ap x.t.ps.length x.t.cp]]) (fun w' hw => by rw [hX]; exact hw) ?_
    have HX := hid (show wrP X (prsL X.it X.l.length) = pathPr x.t k by
      unfold wrP pathPr
      rw [← ei]
      have : X.it = itE x.t k := by funext j; show (lx X.l j).item = _; rw [eE]; rfl
      rw [this, eE])
    have HD := hid (show Dv X.it 0 (X.l.length - 1) = Dv (itE x.t k) 0 ((evsE x.t k).length - 1) by
      have : X.it = itE x.t k := by funext j; show (lx X.l j).item = _; rw [eE]; rfl
      rw [this, eE])
    clear hX el ea ec ed er ei eE
    refine go ?_
    refine GoL.cm (fun w' hw => write_v X b8 _ ⟨hXl.1, by omega⟩ hrd hw) (fun pw => ?_)
    obtain ⟨ap, cap⟩ := pw
    rw [HX.out]
    have hpp := pathPr_ok hE
    dsimp only
    have hcb := hcn k hk
    have hdb := Dv_bd (it := X.it) (y := X.l.length - 1) (by omega) 0
    have hm1 : 0 ≤ (lx x.t.ps k).cnt * Dv X.it 0 (X.l.length - 1) := Int.mul_nonneg (by omega) hdb.1
    have hm2 : (lx x.t.ps k).cnt * Dv X.it 0 (X.l.length - 1) ≤ 1000 * 2000 := Int.mul_le_mul hcb.2 hdb.2 hdb.1 (by omega)
    refine go ?_
    refine GoL.sl (Ef.app (f := LaP.cs) (l := pairsTo x.t k) (l2 := pathPr x.t k) (v := .slice al (pairsTo x.t k).length cl) elP (fun _ => rfl) LaP.one (by omega) pk (fun w hw => hw.ownRd pk)) (fun a2 c2 => ?_)
    refine go ?_
    refine D.q ⟨_, fun Y F => Ex.mg (b := X.bd) (φ := dF X.it X.l.length) (i := 0) (j := X.l.length - 1) (by omega) (by omega) (fun w hw => ⟨_, hw.mapI pk⟩) (hy := by intro g; simp only [evF_tmp, tab_cons, Nat.reduceLT, Nat.reduceEqDiff, ↓reduceIte]; rw [show ((X.l.length : Int) - 1) = ((X.l.length - 1 : Nat) : Int) by omega]; rfl), ?_⟩
    rw [dF_at (show X.l.length - 1 < X.l.length by omega)]
    refine D.q ⟨_, (fun X F => exs), ?_⟩
    refine D.nil0 ⟨_, by intro X; rfl, ⟨by kernel_rfl, by kernel_rfl⟩, by decide +kernel, ?_⟩
    refine go ?_
    have hPT : pairsTo x.t k ++ pathPr x.t k = pairsTo x.t (k + 1) := rfl
    rw [hPT]
    refine go_again (k + 1, a2, c2) ?_ ?_ ?_ sb
    · dsimp only; omega
    · dsimp only; omega
    · have := HD.out
      simp [AgreeL, At, boundTo, pairsTo, this]
  · obtain rfl : k = x.t.ps.length := by omega
    have hpl := pairsTo_ok x.t.ps.length hel
    refine go ?_
    refine GoL.cm (fun w' hw => sort_v (pairsTo x.t x.t.ps.length) al cl hw (fun p hp => ?_) (by omega)) (fun _ => ?_)
    · have h1 := hpl.2 p hp
      have h2 := hel p.path.toNat (by omega)
      unfold LaB; omega
    refine go ?_
    refine end3 (fun w' hw => ⟨(al, cl), ?_, hw.done sb⟩)
    rw [show (boundL x.t).length = (pairsTo x.t x.t.ps.length).length from srtP_len _]; rfl
end

section
set_option linter.all false
set_option pp.maxSteps 100000
set_option maxRecDepth 100000
set_option maxHeartbeats 4000000
open Go.RowKit

theorem cloneP_v (l : List LaP) (a : Option Addr) (c : Nat) (w : World) (hl : Rd LaP.cs 3 w a l) (hn : l.length ≤ 100000) :
    Calls Tryz.prog 56 #[.slice a l.length c] w (Ret (fun p : Option Addr × Nat => .slice p.1 l.length p.2) (fun p => [.own LaP.cs 3 83 (.slice p.1 l.length p.2) l]) w) := by
  refine go_in Tryz.func56 rfl Tryz.ntmps56 [] [] (Mem.start _) ?_
  cases a with
  | none =>
    have h0 : l = [] := by
      rcases hl with h | ⟨b, off, h, _⟩
      · exact h
      · cases h
    subst h0
    refine go ?_
    refine end1 ?_
    exact fun w' hw => ⟨(none, 0), rfl, (Mem.own0 LaP.cs 3 83 hw).done sb⟩
  | some ad =>
    refine go ?_
    refine GoL.sl (Ef.lit (f := LaP.cs) (m := 3) (e := 83) [] (fun _ => rfl) rfl) (fun a0 c0 => ?_)
    refine go ?_
    refine GoL.sl (Ef.app (f := LaP.cs) (l := []) (l2 := l) elP (fun _ => rfl) LaP.one (by simp only [List.length_nil]; omega) pk (fun w hw => hw.old hl)) (fun a1 c1 => ?_)
    rw [List.nil_append]
    refine go ?_
    refine end1 ?_
    exact fun w' hw => ⟨(a1, c1), rfl, hw.done sb⟩
/-- the error of a pair -/
def judgeP (t : TD) (p : LaP) : Int :=
  if outP p.path 0 ((t.ps.length : Int) - 1) then 4 else if outP p.fr 0 (((evsE t p.path.toNat).length : Int) - 1) ∨ outP p.tt 0 (((evsE t p.path.toNat).length : Int) - 1) then 4
  else if p.tt ≤ p.fr ∨ ¬ itE t p.path.toNat p.fr.toNat = itE t p.path.toNat p.tt.toNat then 2 else 0
def judgeL (t : TD) (l : List LaP) : Int := match firstBad (fun i => judgeP t (lx l i)) l.length with
  | some i => judgeP t (lx l i)
  | none => 0
theorem judge_v (x : PD) (b : Nat) (l : List LaP) (a : Option Addr) (c : Nat) (w : World) (hx : x.At b w) (ho : x.Ok) (hes : x.es.map (·.l) = openE x.t) (hl : Rd LaP.cs 3 w a l) (hn : l.length ≤ 100000) :
    Calls Tryz.prog 55 #[.pointer (some ⟨b, 0, none⟩), .slice a l.length c] w (fun e w' => e = .returned (.int .i64 (judgeL x.t l)) ∧ Below w.heap.size w w') := by
  have hc := hx.c
  have hev := hx.e
  have hp1 := ho.p1
  have HE := hid ho.e1
  refine go_in Tryz.func55 rfl Tryz.ntmps55 [] [] (Mem.start _) ?_
  refine go ?_
  refine go_loop (X := Nat) (fun k => k ≤ l.length ∧ ∀ j, j < k → judgeP x.t (lx l j) = 0) (fun k => l.length - k) (fun k => [(11, .int .i64 k)]) (fun _ => []) 0 [0, 1, 9, 10] ⟨Nat.zero_le _, fun j hj => by omega⟩ ⟨fun g => rfl, trivial⟩ sb (fun k hk => ?_)
  refine go ?_
  refine go_if (fun h => ?_) (fun h => ?_)
  · have h5 : k < l.length := by omega
    have hfb : ∀ e, judgeP x.t (lx l k) = e → ¬ e = 0 → judgeL x.t l = e := fun e he h0 => by
      rw [judgeL, firstBad_some h5 (by rw [he]; exact h0) hk.2]; exact he
    generalize hp : lx l k = p at hfb
    refine go ?_
    rw [hp]
    refine GoL.a (fun b6 => ?_)
    refine go ?_
    refine GoL.cv (fun w' hw => out_v _ _ _ w') ?_
    refine go ?_
    refine go_if (fun h2 => ?_) (fun h2 => ?_)
    · refine go ?_
      refine ev1 ?_
      rw [hfb 4 (by rw [judgeP, if_pos h2]) (by decide)]
    have h3 : 0 ≤ p.path ∧ p.path < (x.t.ps.length : Int) := by unfold outP at h2; omega
    have hi : p.path.toNat < x.es.length := by have := HE.out; omega
    have hi2 : p.path < (x.es.length : Int) := by omega
    have hE := hx.q _ (lx_mem hi)
    have EE := hid (evs_eq hes hi)
    have hJ : judgeP x.t p = if outP p.fr 0 (((lx x.es p.path.toNat).l.length : Int) - 1) ∨ outP p.tt 0 (((lx x.es p.path.toNat).l.length : Int) - 1) then 4 else if p.tt ≤ p.fr ∨ ¬ (lx (lx x.es p.path.toNat).l p.fr.toNat).item = (lx (lx x.es p.path.toNat).l p.tt.toNat).item then 2 else 0 := by
      rw [judgeP, if_neg h2, EE.out]; rfl
    have HJ := hid hJ
    clear hJ
    have hlen := ho.len _ (lx_mem hi)
    have hll := hlen.2.2
    refine go ?_
    refine GoL.cv (fun w' hw => out_v _ _ _ w') ?_
    refine go ?_
    refine GoL.jk 6 [(36, .bool (decide (outP p.fr 0 (((lx x.es p.path.toNat).l.length : Int) - 1) ∨ outP p.tt 0 (((lx x.es p.path.toNat).l.length : Int) - 1))))] [0, 1, 6, 7, 8, 9, 10, 11] ?_ ?_
    · refine GoL.sp (fun h1 => ?_) (fun h1 => ?_)
      · refine go ?_
        exact GoL.jd (by simp [AgreeL, At, h1]) sb
      · refine go ?_
        refine GoL.cv (fun w' hw => out_v _ _ _ w') ?_
        refine go ?_
        exact GoL.jd (by simp [AgreeL, At, h1]) sb
    refine go ?_
    refine go_if (fun h4 => ?_) (fun h4 => ?_)
    · refine go ?_
      refine ev1 ?_
      rw [hfb 4 (by rw [HJ.out, if_pos h4]) (by decide)]
    have h6 : 0 ≤ p.fr ∧ p.fr < ((lx x.es p.path.toNat).l.length : Int) ∧ 0 ≤ p.tt ∧ p.tt < ((lx x.es p.path.toNat).l.length : Int) := by unfold outP at h4; omega
    refine go ?_
    refine D.sp (fun h7 => ?_) (fun h7 => ?_)
    · refine go ?_
      refine ev1 ?_
      rw [hfb 2 (by rw [HJ.out, if_neg h4, if_pos (.inl h7)]) (by decide)]
    · refine go ?_
      refine go_if (fun h8 => ?_) (fun h8 => ?_)
      · refine go ?_
        refine ev1 ?_
        rw [hfb 2 (by rw [HJ.out, if_neg h4, if_pos (.inr h8)]) (by decide)]
      · refine go ?_
        have h9 : judgeP x.t p = 0 := by rw [HJ.out, if_neg h4, if_neg (by rintro (h | h); exact absurd h (by omega); exact h h8)]
        refine go_again (k + 1) ⟨by omega, fun j hj => ?_⟩ (by omega) (by simp [AgreeL, At]) sb
        rcases Nat.lt_or_ge j k with h10 | h10
        · exact hk.2 j h10
        · obtain rfl : j = k := by omega
          rw [hp]; exact h9
  · refine go ?_
    refine ev1 ?_
    rw [judgeL, firstBad_none (fun j hj => hk.2 j (by omega))]
end

section
set_option linter.all false
/-- the value of what is between two events, and the pairs that are left; none: it is not fine -/
def valA : Nat → Int → Int → Int → List LaP → Int → Int → Option (Int × List LaP)
  | 0, _, _, _, _, _, _ => none
  | _ + 1, _, _, tt, [], at_, n => some (n + tt - at_, [])
  | k + 1, path, fr, tt, p :: r, at_, n =>
    if p.path = path ∧ p.fr < tt then
      if p.fr < at_ ∨ tt < p.tt ∨ p = ⟨path, fr, tt⟩ then none
      else match valA k path p.fr p.tt r p.fr 0 with
        | none => none
        | some (v, l') => valA k path fr tt l' p.tt (n + (p.fr - at_ + upI v))
    else some (n + tt - at_, p :: r)
/-- pairs of events -/
def PrOk (l : List LaP) : Prop := ∀ p ∈ l, 0 ≤ p.fr ∧ p.fr < p.tt ∧ p.tt ≤ 100
theorem valA_ok : ∀ k path fr tt l at_ n v l', PrOk l → at_ ≤ tt → valA k path fr tt l at_ n = some (v, l') → l' <:+ l ∧ n + (tt - at_) ≤ v ∧ v + 15 * (l'.length : Int) ≤ n + (tt - at_) + 15 * (l.length : Int)
  | 0, _, _, _, _, _, _, _, _, _, _, h => by simp [valA] at h
  | k + 1, path, fr, tt, [], at_, n, v, l', _, ha, h => by
    simp only [valA, Option.some.injEq, Prod.mk.injEq] at h
    obtain ⟨rfl, rfl⟩ := h
    exact ⟨List.suffix_refl _, by omega, by omega⟩
  | k + 1, path, fr, tt, p :: r, at_, n, v, l', hp, ha, h => by
    simp only [valA] at h
    split at h
    · rename_i h1
      split at h
      · cases h
      · rename_i h2
        have hpp := hp p (by simp)
        cases hi : valA k path p.fr p.tt r p.fr 0 with
        | none => rw [hi] at h; cases h
        | some q =>
          obtain ⟨u, l2⟩ := q
          rw [hi] at h
          simp only at h
          have hr : PrOk r := fun x hx => hp x (by simp [hx])
          obtain ⟨a1, a2, a3⟩ := valA_ok k path p.fr p.tt r p.fr 0 u l2 hr (by omega) hi
          have hl2 : PrOk l2 := fun x hx => hr x (a1.subset hx)
          obtain ⟨b1, b2, b3⟩ := valA_ok k path fr tt l2 p.tt _ v l' hl2 (by omega) h
          have hu := upI_ge u
          refine ⟨(b1.trans a1).trans (List.suffix_cons _ _), by omega, ?_⟩
          simp only [List.length_cons]
          push_cast
          omega
    · simp only [Option.some.injEq, Prod.mk.injEq] at h
      obtain ⟨rfl, rfl⟩ := h
      exact ⟨List.suffix_refl _, by omega, by omega⟩
end

section
set_option linter.all false
set_option pp.maxSteps 100000
set_option maxRecDepth 100000
set_option maxHeartbeats 4000000
open Go.RowKit

/-- the memory of the pairs that are left -/
abbrev vlH (bL bV : Nat) (G : List En) (l : List LaP) (a : Option Addr) (c : Nat) : List En :=
  .cells bL [.slice a l.length c] :: .rd LaP.cs 3 a l :: .cells bV [.func (.func 57) #[] #[.pointer (some ⟨bL, 0, none⟩), .pointer (some ⟨bV, 0, none⟩)]] :: G
def valV : Option (Int × List LaP) → Value
  | none => .tuple #[.int .i64 0, .bool false]
  | some (v, _) => .tuple #[.int .i64 v, .bool true]
def valH (bL bV : Nat) (G : List En) : Option (Int × List LaP) → Option Addr × Nat → List En
  | none, _ => G
  | some (_, l), p => .pure (l.length ≤ p.2) :: vlH bL bV G l p.1 p.2
theorem Mem.rdTail {w0 w : World} {Bs : List Nat} {H H' : List En} {p : LaP} {r : List LaP} {a : Option Addr} {c : Nat} (h : Mem w0 Bs H w) (q : Rep (.rd LaP.cs 3 a (p :: r)) (.rd LaP.cs 3 (sfA a 1 3 c) r) H H') (hc : r.length + 1 ≤ c) : Mem w0 Bs H' w :=
  h.to q fun S hS => ⟨fun b hr hb => by
    have hne : ¬ c = 1 := fun e => hr (by have : r.length = 0 := by omega
                                          exact List.eq_nil_of_length_eq_zero this)
    unfold sfA at hb
    rw [if_neg hne] at hb
    cases a with
    | none => cases hb
    | some ad =>
      have e : b = ad.add (1 * 3) := by simpa using hb.symm
      have := hS.1 ad (by simp) rfl
      rw [e]; unfold Addr.add; split
      · exact this
      · exact this, by have := hS.2.drop 1 (c := c) (by simpa using hc); simpa using this⟩
/-- two pairs are equal -/
theorem Ex.eqP {w0 : World} {Bs : List Nat} {n : Nat} {L : List (Nat × Value)} {H : List En} {d : Nat} {ty : TypeId} {pos : String} {af : Array Edge} {gd : Option (Nat × Bool)} {x y : Operand} (p q : LaP)
    (hx : ∀ g, evF n (tab L g) x = .agg #[.int .i64 p.path, .int .i64 p.fr, .int .i64 p.tt] := by intro g; simp only [evF_tmp, tab_cons, Nat.reduceLT, Nat.reduceEqDiff, ↓reduceIte]; (try rfl)) (hy : ∀ g, evF n (tab L g) y = .agg #[.int .i64 q.path, .int .i64 q.fr, .int .i64 q.tt] := by intro g; simp only [evF_tmp, tab_cons, Nat.reduceLT, Nat.reduceEqDiff, ↓reduceIte]; (try rfl)) :
    Ex w0 Bs Tryz.prog n ⟨some d, .binOp .eql 83 x y 83, ty, pos, af, gd⟩ L H (.bool (decide (p = q))) := fun g w _ => by
  have key : ∀ R : Result Next → Prop, R (.ok (.value (.bool (decide (p = q)))) w) → R ((execOp (evF n (tab L g)) ⟨some d, .binOp .eql 83 x y 83, ty, pos, af, gd⟩).run Tryz.prog w) := by
    intro R hR
    have e : decide (p = q) = decide (p.path = q.path ∧ p.fr = q.fr ∧ p.tt = q.tt) := by
      rw [decide_eq_decide]; obtain ⟨a, b, c⟩ := p; obtain ⟨a', b', c'⟩ := q; simp
    rw [e] at hR
    have h1 := hx g
    have h2 := hy g
    go_simp
    by_cases q1 : p.path = q.path <;> by_cases q2 : p.fr = q.fr <;> by_cases q3 : p.tt = q.tt <;> simp [q1, q2, q3] at hR ⊢ <;> exact hR
  exact key (fun r => r = _) rfl
theorem val_v {w0 : World} {Bs : List Nat} (bL bV : Nat) : ∀ k (G : List En) path fr tt l a c w, l.length < k → Mem w0 Bs (vlH bL bV G l a c) w → l.length ≤ c → l.length ≤ 1500 → PrOk l → 0 ≤ fr → fr ≤ tt → tt ≤ 100 →
    Calls Tryz.prog 57 #[.int .i64 path, .int .i64 fr, .int .i64 tt, .pointer (some ⟨bL, 0, none⟩), .pointer (some ⟨bV, 0, none⟩)] w (fun e w' => ∃ p, e = .returned (valV (valA k path fr tt l fr 0)) ∧ Mem w0 Bs (valH bL bV G (valA k path fr tt l fr 0) p) w') := by
  intro k
  induction k using Nat.strongRecOn with
  | ind k ih =>
  intro G path fr tt l a c w hk hm hc hl hp h0 h1 h2
  refine go_in0 Tryz.func57 rfl Tryz.ntmps57 hm ?_
  refine go ?_
  generalize hR : valA k path fr tt l fr 0 = R
  refine go_loop (X := Nat × List LaP × Int × Int × Option Addr × Nat) (fun x => x.1 ≤ k ∧ x.2.1.length < x.1 ∧ valA x.1 path fr tt x.2.1 x.2.2.1 x.2.2.2.1 = R ∧ x.2.1.length ≤ x.2.2.2.2.2 ∧ x.2.1.length ≤ l.length ∧ PrOk x.2.1 ∧ 0 ≤ x.2.2.1 ∧ x.2.2.1 ≤ tt ∧ 0 ≤ x.2.2.2.1 ∧ x.2.2.2.1 + 15 * (x.2.1.length : Int) ≤ 1000000 + x.2.2.1) (fun x => x.2.1.length) (fun x => [(10, .int .i64 x.2.2.1), (8, .int .i64 x.2.2.2.1)]) (fun x => vlH bL bV G x.2.1 x.2.2.2.2.1 x.2.2.2.2.2) (k, l, fr, 0, a, c) [0, 1, 2, 3, 4]
    ⟨Nat.le_refl _, hk, hR, hc, Nat.le_refl _, hp, h0, h1, Int.le_refl _, by simp only; omega⟩ (by simp [AgreeL, At]) (Sub.refl _) (fun x hx => ?_)
  obtain ⟨j, l, at_, n, a, c⟩ := x
  dsimp only at hx ⊢
  obtain ⟨hjk, hlj, hR, hc, hll, hp, ha0, ha1, hn0, hn1⟩ := hx
  cases j with
  | zero => omega
  | succ j =>
  cases l with
  | nil =>
    simp only [valA] at hR
    subst hR
    refine go ?_
    refine end2 (fun w' hw => ⟨(a, c), ?_, Mem.pureI hc (hw.sub (Sub.refl _))⟩)
    simp [valV]
  | cons p r =>
    have hpp := hp p (by simp)
    have hl9 : 0 < (p :: r).length := by simp
    have hlr : (p :: r).length = r.length + 1 := by simp
    dsimp only [vlH]
    refine go ?_
    rw [show lx (p :: r) 0 = p from rfl]
    refine GoL.jk 7 [(33, .bool (decide (p.path = path ∧ p.fr < tt)))] [0, 1, 2, 3, 4, 8, 10] ?_ ?_
    · refine GoL.sp (fun h3 => ?_) (fun h3 => ?_)
      · refine go ?_
        exact GoL.jd (by simp [AgreeL, At, h3]; rfl) (Sub.refl _)
      · refine go ?_
        exact GoL.jd (by simp [AgreeL, At, h3]) (Sub.refl _)
    refine go ?_
    refine go_if (fun h3 => ?_) (fun h3 => ?_)
    rotate_left
    · simp only [valA, if_neg h3] at hR
      subst hR
      refine go ?_
      refine end2 (fun w' hw => ⟨(a, c), ?_, Mem.pureI hc (hw.sub (Sub.refl _))⟩)
      simp [valV]
    simp only [valA, if_pos h3] at hR
    refine go ?_
    rw [show lx (p :: r) 0 = p from rfl]
    refine GoL.a (fun b11 => ?_)
    refine go ?_
    refine GoL.jk 5 [(48, .bool (decide (p.fr < at_ ∨ tt < p.tt)))] [0, 1, 2, 3, 4, 8, 10, 11] ?_ ?_
    · refine GoL.sp (fun h4 => ?_) (fun h4 => ?_)
      · refine go ?_
        exact GoL.jd (by simp [AgreeL, At, h4]) (Sub.refl _)
      · refine go ?_
        exact GoL.jd (by simp [AgreeL, At, Int.not_lt.2 h4]) (Sub.refl _)
    refine go ?_
    refine GoL.jk 7 [(56, .bool (decide ((p.fr < at_ ∨ tt < p.tt) ∨ p = LaP.mk path fr tt)))] [0, 1, 2, 3, 4, 8, 10, 11] ?_ ?_
    · refine GoL.sp (fun h4 => ?_) (fun h4 => ?_)
      · refine go ?_
        exact GoL.jd (by simp [AgreeL, At, h4]) (Sub.refl _)
      · refine go ?_
        refine GoL.q ⟨_, Ex.eqP p ⟨path, fr, tt⟩, ?_⟩
        refine go ?_
        exact GoL.jd (by simp [AgreeL, At]; exact fun h => absurd h (by omega)) (Sub.refl _)
    refine go ?_
    refine go_if (fun h4 => ?_) (fun h4 => ?_)
    · rw [if_pos (by rcases h4 with (h | h) | h; exact .inl h; exact .inr (.inl h); exact .inr (.inr h))] at hR
      subst hR
      refine go ?_
      refine end2 (fun w' hw => ⟨(a, c), rfl, ?_⟩)
      exact hw.sub (Sub.tl (Sub.tl (Sub.tl (Sub.tl (Sub.refl _)))))
    rw [if_neg (by rintro (h | h | h); exact h4 (.inl (.inl h)); exact h4 (.inl (.inr h)); exact h4 (.inr h))] at hR
    refine go ?_
    have h41 : ¬ p.fr < at_ ∧ ¬ tt < p.tt := ⟨fun h => h4 (.inl (.inl h)), fun h => h4 (.inl (.inr h))⟩
    have hpr : PrOk r := fun x hx => hp x (by simp [hx])
    refine GoL.mem (H' := vlH bL bV (.cells b11 [.int .i64 p.path, .int .i64 p.fr, .int .i64 p.tt] :: G) r (sfA a 1 3 c) (c - 1)) (fun w hw => ?_) ?_
    · exact ((hw.rdTail (a := a) (c := c) (p := p) (r := r) rp (by omega)).sub (H' := vlH bL bV (.cells b11 [.int .i64 p.path, .int .i64 p.fr, .int .i64 p.tt] :: G) r (sfA a 1 3 c) (c - 1)) (Sub.cons pk (Sub.cons pk (Sub.cons pk (Sub.refl _)))))
    refine GoL.cm (fun w' hw => ih j (by omega) (.cells b11 [.int .i64 p.path, .int .i64 p.fr, .int .i64 p.tt] :: G) path p.fr p.tt r (sfA a 1 3 c) (c - 1) w' (by omega) hw (by omega) (by omega) hpr hpp.1 (by omega) hpp.2.2) (fun q => ?_)
    have hV := valA_ok j path p.fr p.tt r p.fr 0
    cases hv : valA j path p.fr p.tt r p.fr 0 with
    | none =>
      rw [hv] at hR
      subst hR
      simp only [valV, valH]
      refine go ?_
      refine end2 (fun w' hw => ⟨(a, c), rfl, hw.sub (Sub.tl (Sub.refl _))⟩)
    | some u =>
      obtain ⟨v, l'⟩ := u
      rw [hv] at hR
      obtain ⟨v1, v2, v3⟩ := hV v l' hpr (by omega) hv
      have hl' : l'.length ≤ r.length := v1.length_le
      have hu := upI_ge v
      simp only [valV, valH, vlH]
      refine GoL.pure (fun hc' => ?_)
      refine go ?_
      refine D.cv (fun F w' hw => up_v v w' (by omega)) ?_
      refine D.q ⟨_, (fun X F => exs), ?_⟩
      refine D.nil0 ⟨_, by intro X; rfl, ⟨by kernel_rfl, by kernel_rfl⟩, by decide +kernel, ?_⟩
      refine go ?_
      refine GoX.mem (H' := vlH bL bV G l' q.1 q.2) (fun w hw => hw.sub (Sub.cons pk (Sub.cons pk (Sub.cons pk (Sub.tl (Sub.refl _)))))) ?_
      refine go_again (j, l', p.tt, n + (p.fr - at_ + upI v), q.1, q.2) ⟨by omega, by simp only; omega, hR, hc', by simp only; omega, fun x hx => hpr x (v1.subset hx), by simp only; omega, by simp only; omega, by simp only; omega, by simp only; omega⟩ (by simp only; omega) (by simp [AgreeL, At]) (Sub.refl _)
end


end Go.Proofs.YtigehmghcafblaaGreat
