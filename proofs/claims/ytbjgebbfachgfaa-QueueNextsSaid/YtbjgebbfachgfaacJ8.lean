/- Texts of this proof, joined: Reg4 RangeJ RangeK Fast2. -/
import Derived.RangeFuncNested
import Derived.RangeFuncCalls
import Derived.RangeFuncLeaves
import Derived.Test.YtbjgebbfachgfaacJ7
import Derived.Test.YtbjgebbfachgfaacJ2
import Derived.Test.YtbjgebbfachgfaacJ3
import Derived.Test.YtbjgebbfachgfaacJ6
set_option linter.unusedVariables false
set_option linter.unusedSimpArgs false
set_option linter.unusedSectionVars false
set_option linter.all false
/- The law of such a region: the theorem. -/
namespace Go.Proofs.Ytbjgebbfachgfaa
open Go.RowKit
variable {ds : List Deferred}

section
variable {P : Program} {l : List Oper} {n : Nat} {w0 : World} {Bs rs : List Nat} {K : (Nat → Value) → World → Prop} {ks : List OK} {vs : List (Ad → Value)} {cs : List (Ad → List Value)} {s0 : Nat → Value} {d0 : Nat → List Value}

def J2 (P : Program) (l : List Oper) (n m : Nat) (K : (Nat → Value) → World → Prop) (L : Nat → Bool) (s : Nat → Value) (w : World) : Prop :=
  ∃ k, m ≤ k ∧ k ≤ l.length ∧ (∀ j, L j = decide (j < k)) ∧ ∃ s', (∀ t, t < n → s t = s' t) ∧ listF P l.toArray n K (l.drop k) s' w
def rsOk (ks : List OK) (len nb : Nat) (rs : List Nat) : Bool := rs.all fun r => isAat ks r || (decide (len ≤ r) && decide (r < len + nb))

theorem J1.fin (hc : Chk l (Region.before l.toArray) ks Bs.length) (hrs : rsOk ks l.length Bs.length rs = true)
    (hf : ∀ X, Good ks l.length w0 Bs X → ∀ w, OldB Bs w0 w → (∀ r ∈ rs, Cells w (X r) (cnL ks cs d0 X allT ks.length r)) → listF P l.toArray n K (l.drop ks.length) (frA l vs s0 X ks.length) w)
    {X : Ad} {L : Nat → Bool} {s : Nat → Value} {w : World} (h : J1 l n w0 Bs ks vs cs s0 d0 X L s w) (hL : ∀ j, j < ks.length → L j = true) : J2 P l n ks.length K L s w := by
  refine ⟨ks.length, Nat.le_refl _, hc.le, fun j => ?_, frA l vs s0 X ks.length, fun t ht => ?_, hf X h.g w h.old fun r hr => ?_⟩
  · by_cases hj : j < ks.length
    · rw [hL j hj]; simp [hj]
    · cases hl : L j with
      | false => simp [hj]
      | true => exact absurd (h.lo j hl) hj
  · by_cases hw : ∃ j, j < ks.length ∧ dstAt l j = some t
    · obtain ⟨j, hj, hd⟩ := hw
      rw [h.sl j t (hL j hj) hd]
      exact (frA_at hd ks.length hj fun j' hj' hne hd' => hne (hc.dst j' j t hj' hj hd' hd)).symm
    · have hw' : ∀ j, j < ks.length → dstAt l j ≠ some t := fun j hj hd => hw ⟨j, hj, hd⟩
      rw [frA_un ks.length hw']
      exact h.un t ht fun j hj => hw' j (h.lo j hj)
  · have hal : alive ks l.length Bs.length L r := by
      unfold rsOk at hrs
      rw [List.all_eq_true] at hrs
      have := hrs r hr
      simp only [Bool.or_eq_true, Bool.and_eq_true, decide_eq_true_eq] at this
      rcases this with e | e
      · exact .inl ⟨hL r (isA_lt e), e⟩
      · exact .inr e
    have := h.ce r hal
    rwa [cnL_congr (X' := X) (L' := allT) ks.length fun j hj _ => .inl ⟨hL j hj, rfl, rfl⟩] at this

theorem listF_congr {P : Program} {ops : Array Oper} {n : Nat} {K : (Nat → Value) → World → Prop} {o : Oper} {os : List Oper} {s s' : Nat → Value} {w : World} (h : ∀ t, t < n → s t = s' t) (Kv : Value → World → Prop)
    (hK : ∀ v w', listF P ops n K os (updS s' o.dst v) w' → Kv v w') (hl : listF P ops n K (o :: os) s' w) :
    if Region.wanted o (yielded ops (tmA n s)) then opF P o n s w Kv else Kv undef w := by
  unfold listF at hl
  rw [tmA_congr h]
  split at hl
  · rename_i hw
    rw [if_pos hw]
    unfold opF at hl ⊢
    rw [evF_congr h]
    exact uponF.mono hK hl
  · rename_i hw
    rw [if_neg hw]
    exact hK _ _ hl

theorem upd_agree {n : Nat} {s s' : Nat → Value} (h : ∀ t, t < n → s t = s' t) (d : Option Nat) (v : Value) : ∀ t, t < n → updS s d v t = updS s' d v t := by
  intro t ht
  cases d with
  | none => exact h t ht
  | some d =>
    simp only [updS_some]
    split
    · rfl
    · exact h t ht

theorem invF_of {P : Program} {ops : Array Oper} {n : Nat} {J : (Nat → Bool) → (Nat → Value) → World → Prop} : ∀ (os : List Oper) (i : Nat),
    (∀ j o, os[j]? = some o → ∀ (L : Nat → Bool) (s : Nat → Value) (w : World), L (i + j) = false → (∀ e ∈ o.after.toList, Region.binds .any e = true → L e.on = true) → J L s w →
      (∀ K : Value → World → Prop, (∀ v w', J (upd L (i + j)) (updS s o.dst v) w' → K v w') → if Region.wanted o (yielded ops (tmA n s)) then opF P o n s w K else K undef w)) → invF P ops n J i os
  | [], _, _ => trivial
  | o :: os, i, h => ⟨h 0 o rfl, invF_of os (i + 1) fun j o' ho => by
      have := h (j + 1) o' (by simpa using ho)
      rw [show i + (j + 1) = i + 1 + j by omega] at this
      exact this⟩

theorem regionR_F {id : Nat} {Q : Exit → Act → World → Prop} {s : Nat → Value} {w : World} (Bs : List Nat) (bc : List (List Value)) (rs : List Nat) (ks : List OK) (vs : List (Ad → Value)) (cs : List (Ad → List Value))
    (hm : P.follows .mixedOrders = true) (hb : backB l.toArray = true) (hdn : dstB l.toArray (List.range n) = true) (hchk : chkR l ks Bs.length = true) (hrs : rsOk ks l.length Bs.length rs = true)
    (hN : Bs.Nodup) (hB : ∀ k b, Bs[k]? = some b → Cells w b (bc.getD k []))
    (hw : walkR P ks l.toArray n w.drew Bs rs (fun s w => Q .normal (mkA n s ds) w) 0 l ks vs cs (fun _ => s) (fun _ r => bc.getD (r - l.length) []))
    (hdep : depR l.length (Region.before l.toArray) 0 vs cs) : (Code.region id l.toArray true).wp P Q (mkA n s ds) w := by
  have hc := chk_of hchk
  have hBl : ∀ b ∈ Bs, b < w.drew.heap.size := by
    intro b hb
    obtain ⟨k, hk, rfl⟩ := List.mem_iff_getElem.1 hb
    exact (hB k Bs[k] (by simp [hk])).1
  obtain ⟨g1, g2⟩ := walkR_get (l := l) (ks := ks) (vs := vs) (cs := cs) (s0 := s) (d0 := fun r => bc.getD (r - l.length) []) (kk := ks) ks.length 0 (by omega) hw
  let J : (Nat → Bool) → (Nat → Value) → World → Prop := fun L s' w' => (∃ X, J1 l n w.drew Bs ks vs cs s (fun r => bc.getD (r - l.length) []) X L s' w') ∨ J2 P l n ks.length (fun s w => Q .normal (mkA n s ds) w) L s' w'
  have hstep2 : ∀ (i : Nat) (o : Oper) (L : Nat → Bool) (s' : Nat → Value) (w' : World), l[i]? = some o → L i = false → (∀ j, j < i → L j = true) → J2 P l n ks.length (fun s w => Q .normal (mkA n s ds) w) L s' w' → ∀ Kv : Value → World → Prop, (∀ v w1, J (upd L i) (updS s' o.dst v) w1 → Kv v w1) → if Region.wanted o (yielded l.toArray (tmA n s')) then opF P o n s' w' Kv else Kv undef w' := by
    intro i o L s' w' ho hL hlow ⟨k, hk1, hk2, hk3, s2, hs2, hl2⟩ Kv hK
    have hik : i = k := by
      have h1 := hk3 i
      rw [hL] at h1
      have : ¬ i < k := by simpa using h1.symm
      rcases Nat.lt_or_ge k i with h2 | h2
      · have := hlow k h2
        rw [hk3 k] at this; simp at this
      · omega
    subst hik
    have hil : i < l.length := (List.getElem?_eq_some_iff.1 ho).1
    rw [List.drop_eq_getElem_cons hil] at hl2
    have e : l[i] = o := by rw [List.getElem?_eq_getElem hil] at ho; exact Option.some.inj ho
    rw [e] at hl2
    refine listF_congr hs2 Kv (fun v w1 h => hK v w1 (.inr ⟨i + 1, by omega, by omega, fun j => ?_, updS s2 o.dst v, upd_agree hs2 _ _, h⟩)) hl2
    by_cases hj : j = i
    · subst hj; simp [upd]
    · rw [upd_ne hj, hk3 j]
      by_cases h : j < i
      · simp [h]; omega
      · simp [h]; omega
  refine regionI_F J hm hb hdn ?_ ?_ (invF_of l 0 ?_)
  · -- the start
    let X0 : Ad := fun r => if r < l.length then w.heap.size + r else Bs.getD (r - l.length) 0
    refine .inl ⟨X0, ?_, ⟨rfl, rfl, rfl, Nat.le_refl _, fun _ _ _ => rfl⟩, fun _ h => (by cases h), fun _ _ h => (by cases h), fun _ h => (by cases h), ?_, fun _ _ h => (by cases h), fun d hd _ => if_pos hd⟩
    · refine ⟨fun i hi => ?_, fun i j hi hj hne => ?_, fun k b hk => ?_⟩
      · have := isA_lt hi; have := hc.le
        show w.heap.size ≤ if i < l.length then w.heap.size + i else _
        rw [if_pos (by omega)]; omega
      · have := isA_lt hi; have := isA_lt hj; have := hc.le
        show (if i < l.length then w.heap.size + i else _) ≠ if j < l.length then w.heap.size + j else _
        rw [if_pos (by omega), if_pos (by omega)]; omega
      · show (if l.length + k < l.length then _ else Bs.getD (l.length + k - l.length) 0) = b
        rw [if_neg (by omega), show l.length + k - l.length = k by omega, List.getD_eq_getElem?_getD, hk]; rfl
    · intro r hr
      rcases hr with ⟨h, _⟩ | ⟨h1, h2⟩
      · cases h
      · have hk : r - l.length < Bs.length := by omega
        have e : X0 r = Bs[r - l.length] := by
          show (if r < l.length then _ else Bs.getD (r - l.length) 0) = _
          rw [if_neg (by omega), List.getD_eq_getElem?_getD, List.getElem?_eq_getElem hk]; rfl
        rw [e, cnL_skip (i := 0) ks.length (Nat.zero_le _) fun _ _ _ _ => rfl]
        exact (hB (r - l.length) _ (List.getElem?_eq_getElem hk)).drew
  · -- the end
    intro s' w' hJ
    have hend : J2 P l n ks.length (fun s w => Q .normal (mkA n s ds) w) (fun j => decide (j < l.length)) s' w' := by
      rcases hJ with ⟨X, hJ⟩ | hJ
      · exact hJ.fin hc hrs g2 fun j hj => by have := hc.le; simp; omega
      · exact hJ
    obtain ⟨k, hk1, hk2, hk3, s2, hs2, hl2⟩ := hend
    have : k = l.length := by
      have h1 := hk3 k
      simp only [Nat.lt_irrefl, decide_false, decide_eq_false_iff_not] at h1
      omega
    subst this
    rw [List.drop_length] at hl2
    rw [mkA_congr hs2]
    exact hl2
  · -- an operation
    intro i o ho L s' w' hL hd hJ Kv hK
    rw [Nat.zero_add] at hL
    simp only [Nat.zero_add] at hK
    by_cases him : i < ks.length
    · rcases hJ with ⟨X, hJ⟩ | hJ
      · exact looks_step hc hdep hBl hN (g1 i (Nat.zero_le _) him) hJ ho hL hd Kv fun X v w1 h => hK v w1 (.inl ⟨X, h⟩)
      · obtain ⟨k, hk1, _, hk3, _⟩ := hJ
        rw [hk3 i] at hL
        simp at hL; omega
    · have hil : i < l.length := (List.getElem?_eq_some_iff.1 ho).1
      rcases hJ with ⟨X, hJ⟩ | hJ
      · have hlow : ∀ j, j < i → L j = true := by
          intro j hj
          have ha := hc.tail i j hil (by omega) hj
          obtain ⟨e, he, hb', hor⟩ := hc.anc i j o ho ha
          rcases hor with rfl | hor
          · exact hd e he hb'
          · exact hJ.cl e.on j (hd e he hb') hor
        exact hstep2 i o L s' w' ho hL hlow (hJ.fin hc hrs g2 fun j hj => hlow j (by omega)) Kv hK
      · have hJ' := hJ
        obtain ⟨k, hk1, hk2, hk3, _⟩ := hJ'
        have hlow : ∀ j, j < i → L j = true := by
          intro j hj
          have ha := hc.tail i j hil (by omega) hj
          obtain ⟨e, he, hb', hor⟩ := hc.anc i j o ho ha
          have hon := hd e he hb'
          rcases hor with rfl | hor
          · exact hon
          · rw [hk3] at hon ⊢
            simp only [decide_eq_true_eq] at hon ⊢
            have := hc.lt e.on j (by omega) hor
            omega
        exact hstep2 i o L s' w' ho hL hlow hJ Kv hK
end

/- the walk's steps -/
section
variable {P : Program} {kk : List OK} {ops : Array Oper} {n : Nat} {w0 : World} {Bs rs : List Nat} {K : (Nat → Value) → World → Prop} {i : Nat} {o : Oper} {os : List Oper} {ks : List OK} {v : Ad → Value} {vs : List (Ad → Value)} {c : Ad → List Value} {cs : List (Ad → List Value)} {s : Ad → Nat → Value} {d : Ad → Nat → List Value}

theorem walkR_q {rd : List Nat} (hg : o.guard = none) (h1 : ∀ X, Good kk ops.size w0 Bs X → ∀ w, OldB Bs w0 w → (∀ r ∈ rd, Cells w (X r) (d X r)) → quietB P w (v X) ((execOp (evF n (s X)) o).run P w))
    (h2 : walkR P kk ops n w0 Bs rs K (i + 1) os ks vs cs (fun X => updS (s X) o.dst (v X)) d) : walkR P kk ops n w0 Bs rs K i (o :: os) (.q rd :: ks) (v :: vs) (c :: cs) s d :=
  ⟨fun X hX => ⟨by simp [Region.wanted, hg], h1 X hX⟩, by simpa only [OK.wr_q, updC_none] using h2⟩
theorem walkR_qg {rd : List Nat} {j t : Nat} {b : Bool} (hg : o.guard = some (j, b)) (hd : (ops[j]?).bind (·.dst) = some t) (hn : t < n) (hs : ∀ X, Good kk ops.size w0 Bs X → s X t = .bool b)
    (h1 : ∀ X, Good kk ops.size w0 Bs X → ∀ w, OldB Bs w0 w → (∀ r ∈ rd, Cells w (X r) (d X r)) → quietB P w (v X) ((execOp (evF n (s X)) o).run P w))
    (h2 : walkR P kk ops n w0 Bs rs K (i + 1) os ks vs cs (fun X => updS (s X) o.dst (v X)) d) : walkR P kk ops n w0 Bs rs K i (o :: os) (.q rd :: ks) (v :: vs) (c :: cs) s d :=
  ⟨fun X hX => ⟨by rw [wanted_F hg hd hn (hs X hX)]; simp, h1 X hX⟩, by simpa only [OK.wr_q, updC_none] using h2⟩
theorem walkR_no {j t : Nat} {b b' : Bool} (hg : o.guard = some (j, b)) (hd : (ops[j]?).bind (·.dst) = some t) (hn : t < n) (hs : ∀ X, Good kk ops.size w0 Bs X → s X t = .bool b') (hb : (b' == b) = false)
    (h2 : walkR P kk ops n w0 Bs rs K (i + 1) os ks vs cs (fun X => updS (s X) o.dst undef) d) : walkR P kk ops n w0 Bs rs K i (o :: os) (.no :: ks) ((fun _ => undef) :: vs) (c :: cs) s d :=
  ⟨fun X hX => ⟨by rw [wanted_F hg hd hn (hs X hX)]; exact hb, rfl⟩, by simpa only [OK.wr_no, updC_none] using h2⟩
theorem walkR_nu {j t : Nat} {b : Bool} (hg : o.guard = some (j, b)) (hd : (ops[j]?).bind (·.dst) = some t) (hn : t < n) (hs : ∀ X, Good kk ops.size w0 Bs X → s X t = undef)
    (h2 : walkR P kk ops n w0 Bs rs K (i + 1) os ks vs cs (fun X => updS (s X) o.dst undef) d) : walkR P kk ops n w0 Bs rs K i (o :: os) (.no :: ks) ((fun _ => undef) :: vs) (c :: cs) s d :=
  ⟨fun X hX => ⟨by
    unfold Region.wanted
    rw [hg]
    simp only [yielded, hd, Option.bind_some, mkA_get, hn, if_true, hs X hX]
    rfl, rfl⟩, by simpa only [OK.wr_no, updC_none] using h2⟩
theorem walkR_a (hg : o.guard = none) (h1 : ∀ X, Good kk ops.size w0 Bs X → ∀ w, OldB Bs w0 w → w.heap.size = X i → newB w (v X) (c X) ((execOp (evF n (s X)) o).run P w))
    (h2 : walkR P kk ops n w0 Bs rs K (i + 1) os ks vs cs (fun X => updS (s X) o.dst (v X)) (fun X => updC (d X) (some i) (c X))) : walkR P kk ops n w0 Bs rs K i (o :: os) (.a :: ks) (v :: vs) (c :: cs) s d :=
  ⟨fun X hX => ⟨by simp [Region.wanted, hg], h1 X hX⟩, h2⟩
theorem walkR_st {r : Nat} (hg : o.guard = none) (h1 : ∀ X, Good kk ops.size w0 Bs X → ∀ w, OldB Bs w0 w → Cells w (X r) (d X r) → writeB (X r) w (c X) ((execOp (evF n (s X)) o).run P w))
    (h2 : walkR P kk ops n w0 Bs rs K (i + 1) os ks vs cs (fun X => updS (s X) o.dst undef) (fun X => updC (d X) (some r) (c X))) : walkR P kk ops n w0 Bs rs K i (o :: os) (.st r :: ks) ((fun _ => undef) :: vs) (c :: cs) s d :=
  ⟨fun X hX => ⟨by simp [Region.wanted, hg], rfl, h1 X hX⟩, h2⟩
theorem walkR_nil (h : ∀ X, Good kk ops.size w0 Bs X → ∀ w, OldB Bs w0 w → (∀ r ∈ rs, Cells w (X r) (d X r)) → listF P ops n K os (s X) w) : walkR P kk ops n w0 Bs rs K i os [] [] [] s d := by
  cases os with
  | nil => simpa only [walkR] using h
  | cons o os => simpa only [walkR] using h
theorem depR_cons {len : Nat} {M : Array Nat} (h : ∀ X X' : Ad, (∀ r, (r == i || aB M i r || decide (len ≤ r)) = true → X r = X' r) → v X = v X' ∧ c X = c X') (h2 : depR len M (i + 1) vs cs) : depR len M i (v :: vs) (c :: cs) := ⟨h, h2⟩
theorem depR_nil {len : Nat} {M : Array Nat} : depR len M i [] [] := trivial
theorem bc_nil {w : World} : ∀ (k b : Nat), ([] : List Nat)[k]? = some b → Cells w b (([] : List (List Value)).getD k []) := by
  intro k b h; simp at h
theorem bc_cons {w : World} {B : Nat} {cB : List Value} {bcs : List (List Value)} (h : Cells w B cB) (t : ∀ (k b : Nat), Bs[k]? = some b → Cells w b (bcs.getD k [])) : ∀ (k b : Nat), (B :: Bs)[k]? = some b → Cells w b ((cB :: bcs).getD k []) := by
  intro k b hk
  cases k with
  | zero => simp at hk; subst hk; simpa using h
  | succ k => simpa using t k b (by simpa using hk)
theorem newB_mk {w : World} {u u' : Value} {cc : Array Value} {T : TypeId} {cl : List Value} (h1 : cc.toList = cl) (h2 : u = u') : newB w u' cl (.ok (.value u) (w.alloc (.cells cc T))) := ⟨cc, T, rfl, h1, h2⟩
theorem writeB_mk {w w' : World} {b : Nat} {c' cl : List Value} (h : Cells w' b c') (ho : Only b w w') (hc : c' = cl) : writeB b w cl (.ok .skip w') := ⟨ho, by rw [← hc]; exact h⟩
theorem Only.refl (b : Nat) (w : World) : Only b w w := ⟨rfl, rfl, rfl, rfl, fun _ _ => rfl⟩
theorem Only.set {b o : Nat} {w w' : World} {u : Value} (h : Only b w w') : Only b w (w'.setCell ⟨b, o, none⟩ u) := by
  have hb := (Below.refl b w').setCell (p := ⟨b, o, none⟩) (Nat.le_refl _) u
  refine ⟨hb.os.trans h.os, hb.tape.trans h.tape, hb.output.trans h.output, by simpa using h.size, fun k hk => ?_⟩
  rw [← h.block k hk]
  exact Below.heap_setCell _ _ _ _ hk
theorem OldB.b0 {w w' : World} (h : OldB [] w.drew w') : (∀ b o, b < w.heap.size → w'.cell? ⟨b, o, none⟩ = w.cell? ⟨b, o, none⟩) ∧ (∀ b o, b < w.heap.size → w'.frozen? ⟨b, o, none⟩ = w.frozen? ⟨b, o, none⟩) :=
  ⟨fun b o hb => cellBk (h.block b hb (by simp)), fun b o hb => frozBk (h.block b hb (by simp))⟩
theorem OldB.b1 {w w' : World} {B : Nat} (h : OldB [B] w.drew w') : (∀ b o, b < w.heap.size → ¬ b = B → w'.cell? ⟨b, o, none⟩ = w.cell? ⟨b, o, none⟩) ∧ (∀ b o, b < w.heap.size → ¬ b = B → w'.frozen? ⟨b, o, none⟩ = w.frozen? ⟨b, o, none⟩) :=
  ⟨fun b o hb h1 => cellBk (h.block b hb (by simp [h1])), fun b o hb h1 => frozBk (h.block b hb (by simp [h1]))⟩
theorem OldB.b2 {w w' : World} {B C : Nat} (h : OldB [B, C] w.drew w') : (∀ b o, b < w.heap.size → ¬ b = B → ¬ b = C → w'.cell? ⟨b, o, none⟩ = w.cell? ⟨b, o, none⟩) ∧ (∀ b o, b < w.heap.size → ¬ b = B → ¬ b = C → w'.frozen? ⟨b, o, none⟩ = w.frozen? ⟨b, o, none⟩) :=
  ⟨fun b o hb h1 h2 => cellBk (h.block b hb (by simp [h1, h2])), fun b o hb h1 h2 => frozBk (h.block b hb (by simp [h1, h2]))⟩
theorem OldB.b3 {w w' : World} {B C D : Nat} (h : OldB [B, C, D] w.drew w') : (∀ b o, b < w.heap.size → ¬ b = B → ¬ b = C → ¬ b = D → w'.cell? ⟨b, o, none⟩ = w.cell? ⟨b, o, none⟩) ∧ (∀ b o, b < w.heap.size → ¬ b = B → ¬ b = C → ¬ b = D → w'.frozen? ⟨b, o, none⟩ = w.frozen? ⟨b, o, none⟩) :=
  ⟨fun b o hb h1 h2 h3 => cellBk (h.block b hb (by simp [h1, h2, h3])), fun b o hb h1 h2 h3 => frozBk (h.block b hb (by simp [h1, h2, h3]))⟩
theorem OldB.low {w w' : World} {N : Nat} (h : OldB Bs w.drew w') (hN : N ≤ w.heap.size) (hB : ∀ b ∈ Bs, N ≤ b) : Below N w w' :=
  ⟨h.os, h.tape, h.output, h.size, fun k hk => h.block k (Nat.lt_of_lt_of_le hk hN) (fun hm => by have := hB k hm; omega)⟩
end

/- names for worlds and frames; blocks as lists of cells -/
section
variable {P : Program} {ops : Array Oper} {n : Nat} {K : (Nat → Value) → World → Prop} {l : List Oper} {S : Nat → Value} {w : World}
theorem listF_absw (h : ∀ w', w' = w → listF P ops n K l S w') : listF P ops n K l S w := h w rfl
theorem listF_abs (h : ∀ s', s' = S → listF P ops n K l s' w) : listF P ops n K l S w := h S rfl
theorem wp_absw {c : Code} {Q : Exit → Act → World → Prop} {a : Act} (h : ∀ w', w' = w → c.wp P Q a w') : c.wp P Q a w := h w rfl
theorem Cells.low {w w' : World} {b N : Nat} {l : List Value} (h : Cells w b l) (hb : Below N w w') (hN : b < N) : Cells w' b l := h.same (hb.block b hN) hb.size
theorem Cells.old {w w' : World} {Bs : List Nat} {b : Nat} {l : List Value} (h : Cells w b l) (ho : OldB Bs w.drew w') (hB : b ∉ Bs) : Cells w' b l := h.same (ho.block b h.1 hB) ho.size
theorem Own.toCells {α : Type} {f : α → List Value} {m : Nat} {T : TypeId} {base : Nat} {w : World} {g N cap : Nat} {l : List α} (h : Own f m T base w (.slice (some ⟨g, 0, none⟩) N cap) l) : Cells w g (l.flatMap f) := by
  rcases h.2 with ⟨h1, _⟩ | ⟨g', cap', cur, hv, _, hg, hn, _, hs, ht⟩
  · cases h1
  · cases hv
    refine ⟨(Array.getElem?_eq_some_iff.1 hg).1, fun i v hv => ?_, fun o => by simp [World.frozen?, hg]⟩
    have h2 : cur[i]? = some v := by
      rw [← ht] at hv
      have : i < l.length * m := by
        have := (List.getElem?_eq_some_iff.1 hv).1
        simp at this; omega
      rw [List.getElem?_take_of_lt this] at hv
      simpa using hv
    simp [World.cell?, hg, h2]
end
/-- a block that holds rows -/
theorem Cells.rd {α : Type} {f : α → List Value} {m : Nat} (hf : ∀ x, (f x).length = m) {w : World} {g : Nat} {l : List α} (h : Cells w g (l.flatMap f)) : Rd f m w (some ⟨g, 0, none⟩) l :=
  .inr ⟨g, 0, rfl, h.1, fun i x hi j v hj => by rw [Nat.zero_add]; exact h.2.1 _ _ (flat_get f m hf l i x hi j v hj)⟩

end Go.Proofs.Ytbjgebbfachgfaa
/- A range over an iterator that writes memory of its own, none of whose rounds leaves early: the statement, by one invariant between two rounds (J) and one at each call of yield (M). -/
namespace Go.Proofs.Ytbjgebbfachgfaa
open Go.RowKit

/-- the loop's own two blocks: the rounds' deferred calls (none), and the record behind them -/
def LoopAt (W : World) (l : Nat) (r : Loop) : Prop := W.heap[l + 1]? = some (.loop r) ∧ W.heap[l]? = some (.deferred (some []))
theorem LoopAt.put {W : World} {l : Nat} {r r' : Loop} (h : LoopAt W l r) : LoopAt (W.putObj (l + 1) (.loop r')) l r' :=
  ⟨World.putObj_heap_same (Array.getElem?_eq_some_iff.1 h.1).1, (World.putObj_heap_other (by omega)).trans h.2⟩

theorem wp_range_j {P : Program} {α : Type} {g : Operand} {ps : Array Tmp} {assign body : Code} {Q : Exit → Act → World → Prop} {a : Act} {w : World} {gf : Nat} {lb : Array Value} (enc : α → Value)
    (hg : a.eval g = .func (.func gf) #[] lb) (eg : ∀ args w, (callFunc gf args).run P w = .ok (.enter gf args) w) (hps : ps.size = 1)
    (J : List α → World → Prop) (M : List α → α → World → Prop) (Fin : List α → Prop)
    (hJ : ∀ pre W r r', J pre W → LoopAt W w.heap.size r → J pre (W.putObj (w.heap.size + 1) (.loop r')))
    (h0 : ∀ r, J [] ((w.alloc (.deferred (some []))).alloc (.loop r)))
    (hiter : ∀ (r : Loop) (W : World), J [] W → LoopAt W w.heap.size r →
      (∀ pre x W1, M pre x W1 → LoopAt W1 w.heap.size r → YieldAt Fence.wide 0 P (w.heap.size + 1) #[enc x] W1 fun e W' => e = .returned (.bool true) ∧ J (pre ++ [x]) W' ∧ LoopAt W' w.heap.size r) →
      Calls P gf (#[.func (.yield (w.heap.size + 1)) #[] #[]] ++ lb) W fun e W' => (∃ v, e = .returned v) ∧ ∃ xs, J xs W' ∧ Fin xs ∧ LoopAt W' w.heap.size r)
    (hround : ∀ pre x W r, M pre x W → LoopAt W w.heap.size r →
      assign.wpIn (Fence.wide.inRound (w.heap.size + 1)) 0 P (Exit.then (fun a₁ W₁ => LoopAt W₁ w.heap.size r ∧ ∀ r', body.wpIn (Fence.wide.inRound (w.heap.size + 1)) 0 P (fun e _ W' => e = .normal ∧ J (pre ++ [x]) W' ∧ LoopAt W' w.heap.size r') a₁ (W₁.putObj (w.heap.size + 1) (.loop r'))) (fun _ _ _ => False))
        { tmps := (ps.zip #[enc x]).foldl (fun t (p, v) => t.setIfInBounds p v) a.tmps, defers := [] } W)
    (hdone : ∀ xs W, J xs W → Fin xs → W.heap[w.heap.size]? = some (.deferred (some [])) → Q .normal { a with defers := { target := .collected w.heap.size, args := #[] } :: a.defers } W) :
    (Code.rangeFunc g ps assign body).wp P Q a w := by
  refine (wpIn_wide (n := 0)).1 (wpIn_rangeFunc ?_)
  intro fn hfn
  let rec0 : Loop := { state := .ready, pending := none, fn := fn, tmps := a.tmps, params := ps, assign := assign, body := body, defers := w.heap.size }
  let W1 : World := (w.alloc (.deferred (some []))).alloc (.loop rec0)
  have hL1 : LoopAt W1 w.heap.size rec0 := by
    refine ⟨?_, ?_⟩
    · have := World.alloc_heap_new (w.alloc (.deferred (some []))) (.loop rec0)
      rwa [World.size_alloc] at this
    · exact (Below.heap_alloc _ _ _ (by simp)).trans (World.alloc_heap_new w _)
  refine ⟨w.heap.size + 1, [{ target := .collected w.heap.size, args := #[] }], W1, { target := .fn (.func gf) lb, args := #[.func (.yield (w.heap.size + 1)) #[] #[]] }, W1, gf,
    #[.func (.yield (w.heap.size + 1)) #[] #[]] ++ lb, W1, run_enterLoop_outer _ _ _ _ _, ?_, fun _ _ => trivial, ?_, fun h => (by simp [Fence.wide] at h), ?_⟩
  · simp only [resolve, hg]
    simp [go_sem]
  · simp [invoke, go_sem, eg]
  · refine callsIn_wide.2 ((hiter rec0 W1 (h0 rec0) hL1 ?_).mono ?_)
    · -- a round
      intro pre x W hm hl
      refine ⟨fn, _, assign, body, run_yield (P := P) (args := #[enc x]) hl.1 (by show _ = ps.size; rw [hps]; rfl), roundIn_of_wpIn trivial ?_⟩
      refine wpIn_mono (hround pre x W rec0 hm hl) ?_
      intro e a1 W2 h
      cases e with
      | normal =>
        obtain ⟨hl2, hb⟩ := h
        refine ⟨_, run_beginRound hl2.1 rfl, wpIn_mono (hb _) ?_⟩
        rintro e a3 W3 ⟨rfl, hj3, hl3⟩
        exact ⟨_, _, run_endRound none hl3.1, rfl, hJ _ _ _ _ hj3 hl3, hl3.put⟩
      | exit id => exact h
      | goto t => exact h
      | ret => exact h
      | panic ch => exact h
      | outgrown => exact h
    · -- behind the iterator
      rintro e W2 ⟨⟨v, rfl⟩, xs, hj, hf, hl⟩
      refine ⟨none, _, run_endLoop (P := P) hl.1 (by show LoopState.ready ≠ LoopState.busy; decide), hdone xs _ (hJ _ _ _ _ hj hl) hf ((World.putObj_heap_other (by omega)).trans hl.2)⟩

end Go.Proofs.Ytbjgebbfachgfaa
/- Regions in the order of the text, inside a round of a range over a function, and at a call of yield, over frames as functions. -/
namespace Go.Proofs.Ytbjgebbfachgfaa
open Go.RowKit
variable {ds : List Deferred}

def Fw (ρ : Option Nat) : Fence := { Fence.wide with round := ρ }
theorem Fw_none : Fw none = Fence.wide := rfl
theorem Fw_some (l : Nat) : Fw (some l) = Fence.wide.inRound l := rfl
theorem callsIn_Fw {ρ : Option Nat} {n : Nat} {P : Program} {f : FuncId} {args : Array Value} {w : World} {R : Ending → World → Prop} (h : Calls P f args w R) : CallsIn (Fw ρ) n P f args w R := by
  have h2 : CallsIn Fence.wide n P f args w R := callsIn_wide.2 h
  exact h2

section
variable {P : Program} {n m : Nat} {ρ : Option Nat} {o : Oper} {s : Nat → Value} {w : World} {K : Act → World → Prop} {Q : Exit → Act → World → Prop} {ops : Array Oper}

theorem semAt_any (hd : ∀ c, o.op ≠ .defer c) (e : Operand → Value) : o.semAt ρ e = execOp e o := by
  cases ρ with
  | none => unfold Oper.semAt; cases o.op <;> rfl
  | some l => exact Oper.semAt_some l e o hd

theorem opF_in (hd : ∀ c, o.op ≠ .defer c) (h : opF P o n s w fun v w' => K (mkA n (updS s o.dst v) ds) w') : o.wpIn (Fw ρ) m P (mkA n s ds) w K Q := by
  refine ⟨fun _ _ => trivial, ?_⟩
  show o.uponIn (Fw ρ) m P (mkA n s ds) K Q ((o.semAt ρ (mkA n s ds).eval).run P w)
  rw [semAt_any hd, mkA_eval]
  unfold opF at h
  generalize (execOp (evF n s) o).run P w = r at *
  cases r with
  | ok nx w' =>
    cases nx with
    | value v => simp only [uponF] at h; rw [Oper.uponIn_value, mkA_put]; exact h
    | skip => simp only [uponF] at h; rw [Oper.uponIn_skip, mkA_put]; exact h
    | enter f args =>
      simp only [uponF] at h
      rw [Oper.uponIn_enter]
      refine ⟨fun h => (by simp [Fw, Fence.wide] at h), callsIn_Fw (h.mono ?_)⟩
      rintro e w'' ⟨v, rfl, hk⟩
      show K ((mkA n s ds).put o.dst v) w''
      rw [mkA_put]; exact hk
    | row r args =>
      simp only [uponF] at h
      refine ⟨fun h => (by simp [Fw, Fence.wide] at h), ?_⟩
      intro c cs _
      obtain ⟨v, w'', hk, hs⟩ := h c cs
      exact ⟨v, w'', by show K ((mkA n s ds).put o.dst v) w''; rw [mkA_put]; exact hk, stepsIn_wide.2 hs⟩
    | _ => exact (h : False).elim
  | halt x w' => exact (h : False).elim

def noDefer (l : List Oper) : Bool := l.all fun o => match o.op with | .defer _ => false | _ => true
theorem listF_in : ∀ (l : List Oper) (s : Nat → Value) (w : World), noDefer l = true → listF P ops n (fun s w => Q .normal (mkA n s ds) w) l s w → wpListIn (Fw ρ) m P ops Q l (mkA n s ds) w
  | [], _, _, _, h => h
  | o :: os, s, w, hd, h => by
    have hd1 : ∀ c, o.op ≠ .defer c := by
      intro c e
      unfold noDefer at hd
      simp only [List.all_cons, Bool.and_eq_true, e] at hd
      exact absurd hd.1 (by decide)
    have hd2 : noDefer os = true := by
      unfold noDefer at hd ⊢
      simp only [List.all_cons, Bool.and_eq_true] at hd
      exact hd.2
    unfold listF at h
    unfold wpListIn
    split at h
    · rename_i hw
      rw [if_pos (show Region.wanted o (yielded ops (mkA n s ds).tmps) = true from hw)]
      refine opF_in hd1 ?_
      exact uponF.mono (fun v w' h' => listF_in os _ _ hd2 h') h
    · rename_i hw
      rw [if_neg (show ¬ Region.wanted o (yielded ops (mkA n s ds).tmps) = true from hw), mkA_put]
      exact ⟨fun _ _ => trivial, listF_in os _ _ hd2 h⟩
theorem region_FI {id : Nat} {l : List Oper} (hd : noDefer l = true) (h : listF P l.toArray n (fun s w => Q .normal (mkA n s ds) w) l s w) : (Code.region id l.toArray false).wpIn (Fw ρ) m P Q (mkA n s ds) w :=
  wpIn_region_lit (listF_in l s w hd h)

/-- a call of yield in a region in the order of the text -/
theorem yield_in {ops : Array Oper} {os : List Oper} {l d : Nat} {v : Value} {R : Ending → World → Prop} (hg : o.guard = none) (hd : ∀ c, o.op ≠ .defer c) (hdst : o.dst = some d)
    (hr : (execOp (evF n s) o).run P w = (Instr.yield l #[v]).run P w) (hy : YieldAt Fence.wide 0 P l #[v] w R)
    (hk : ∀ e w', R e w' → ∃ x, e = .returned x ∧ wpListIn (Fw none) 0 P ops Q os (mkA n (updS s (some d) x) ds) w') : wpListIn (Fw none) 0 P ops Q (o :: os) (mkA n s ds) w := by
  obtain ⟨fn, tmps, assign, body, h1, h2⟩ := hy
  unfold wpListIn
  rw [if_pos (by simp [Region.wanted, hg])]
  refine ⟨fun _ _ => trivial, ?_⟩
  show o.uponIn (Fw none) 0 P (mkA n s ds) _ Q ((o.semAt none (mkA n s ds).eval).run P w)
  rw [semAt_any hd, mkA_eval, hr, h1, Oper.uponIn_round]
  refine ⟨fun h => (by simp [Fw, Fence.wide] at h), RoundIn.mono (R := R) ?_ ?_⟩
  · exact h2
  · intro e w' hR
    obtain ⟨x, rfl, hx⟩ := hk e w' hR
    show wpListIn (Fw none) 0 P ops Q os ((mkA n s ds).put o.dst x) w'
    rw [hdst, mkA_put]; exact hx
/-- operations ahead of it -/
theorem listF_then {ops : Array Oper} {l2 : List Oper} (Q : Exit → Act → World → Prop) : ∀ (l1 : List Oper) (s : Nat → Value) (w : World), noDefer l1 = true → listF P ops n (fun s w => wpListIn (Fw none) m P ops Q l2 (mkA n s ds) w) l1 s w → wpListIn (Fw none) m P ops Q (l1 ++ l2) (mkA n s ds) w
  | [], _, _, _, h => h
  | o :: os, s, w, hd, h => by
    have hd1 : ∀ c, o.op ≠ .defer c := by
      intro c e
      unfold noDefer at hd
      simp only [List.all_cons, Bool.and_eq_true, e] at hd
      exact absurd hd.1 (by decide)
    have hd2 : noDefer os = true := by
      unfold noDefer at hd ⊢
      simp only [List.all_cons, Bool.and_eq_true] at hd
      exact hd.2
    unfold listF at h
    show wpListIn (Fw none) m P ops Q (o :: (os ++ l2)) (mkA n s ds) w
    unfold wpListIn
    split at h
    · rename_i hw
      rw [if_pos (show Region.wanted o (yielded ops (mkA n s ds).tmps) = true from hw)]
      refine opF_in hd1 ?_
      exact uponF.mono (fun v w' h' => listF_then Q os _ _ hd2 h') h
    · rename_i hw
      rw [if_neg (show ¬ Region.wanted o (yielded ops (mkA n s ds).tmps) = true from hw), mkA_put]
      exact ⟨fun _ _ => trivial, listF_then Q os _ _ hd2 h⟩
theorem region_yield {id k : Nat} {l : List Oper} (hd : noDefer (l.take k) = true) (h : listF P l.toArray n (fun s w => wpListIn (Fw none) 0 P l.toArray Q (l.drop k) (mkA n s ds) w) (l.take k) s w) : (Code.region id l.toArray false).wp P Q (mkA n s ds) w := by
  refine (wpIn_wide (n := 0)).1 (wpIn_region_lit ?_)
  have := listF_then (m := 0) (ops := l.toArray) (l2 := l.drop k) Q (l.take k) s w hd h
  rwa [List.take_append_drop] at this
end

end Go.Proofs.Ytbjgebbfachgfaa
/- The kit's own laws on one operation, used in a walk over frames as functions. -/
namespace Go.Proofs.Ytbjgebbfachgfaa
open Go.RowKit
variable {ds : List Deferred}

theorem opF_of_wp {P : Program} {o : Oper} {n d : Nat} {s : Nat → Value} {w : World} {K' : Value → World → Prop} (hd : o.dst = some d) (hn : d < n)
    (h : ∀ (K : Act → World → Prop) (Q : Exit → Act → World → Prop), (∀ v w', K' v w' → K ((mkA n s []).put o.dst v) w') → o.wp P (mkA n s []) w K Q) : opF P o n s w K' := by
  have hg : ∀ v, ((mkA n s []).put o.dst v).tmps.getD d undef = v := by
    intro v
    rw [mkA_put, mkA_tmps, getD_F hn, hd]; simp [updS]
  have h1 := h (fun a w' => a.defers = [] ∧ K' (a.tmps.getD d undef) w') (fun _ _ _ => False) (fun v w' hk => by rw [mkA_put]; refine ⟨rfl, ?_⟩; have := hg v; rw [mkA_put] at this; rw [this]; exact hk)
  unfold opF
  unfold Oper.wp at h1
  rw [mkA_eval] at h1
  generalize (execOp (evF n s) o).run P w = r at *
  cases r with
  | ok nx w' =>
    cases nx with
    | value v => simp only [Oper.upon] at h1; simp only [uponF]; rw [hg] at h1; exact h1.2
    | skip => simp only [Oper.upon] at h1; simp only [uponF]; rw [hg] at h1; exact h1.2
    | enter f args =>
      simp only [Oper.upon] at h1
      simp only [uponF]
      refine h1.mono fun e w'' he => ?_
      cases e with
      | returned v => exact ⟨v, rfl, by have he' : ((mkA n s []).put o.dst v).defers = [] ∧ K' (((mkA n s []).put o.dst v).tmps.getD d undef) w'' := he; rw [hg] at he'; exact he'.2⟩
      | panicked chain => exact (he : False).elim
      | outgrown => obtain ⟨_, _, hf⟩ := he; exact (hf : False).elim
    | defer dd =>
      simp only [Oper.upon] at h1
      have := h1.1
      rw [hd] at this
      simp [Act.put] at this
    | row r args =>
      simp only [Oper.upon] at h1
      simp only [uponF]
      exact Rows.mono h1 fun v w'' hk => by rw [hg] at hk; exact hk.2
    | _ => exact (h1 : False).elim
  | halt x w' => cases x <;> exact (h1 : False).elim

/-- from a frame that is written out to a frame as a function -/
theorem wp_toF {P : Program} {c : Code} {Q : Exit → Act → World → Prop} {a : Act} {w : World} {n : Nat} (hd : a.defers = []) (hn : a.tmps.size = n) (h : ∀ s : Nat → Value, (∀ t, s t = a.tmps.getD t undef) → c.wp P Q (mkA n s []) w) : c.wp P Q a w := by
  have := mkA_of a hd
  rw [hn] at this
  rw [this]
  exact h _ fun t => rfl

end Go.Proofs.Ytbjgebbfachgfaa
