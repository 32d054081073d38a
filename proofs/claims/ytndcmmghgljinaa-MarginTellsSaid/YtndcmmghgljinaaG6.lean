/- Ranges over a function that panics; regions that draw their order inside a round; deferred calls that recover; loops whose rounds defer. -/
import Derived.Test.YtndcmmghgljinaaG5
import Derived.RecoverIn
import Derived.OrdersIn
set_option linter.all false
namespace Go.Proofs.Ytndcmmghgljinaa
open Go.RowKit

theorem panic_in {P : Program} {n m : Nat} {o : Oper} {os : List Oper} {ops : Array Oper} {s : Nat → Value} {w w' : World} {Q : Exit → Act → World → Prop} {ds : List Deferred} {v : Value}
    (hr : (execOp (evF n s) o).run P w = .halt (.panic v) w') (h : Q (.panic [{ v, recovered := false }]) (mkA n s ds) w') (hg : o.guard = none := by rfl) (hd : ∀ c, o.op ≠ .defer c := by intro c h; cases h) : wpListIn (Fw none) m P ops Q (o :: os) (mkA n s ds) w := by
  unfold wpListIn
  rw [if_pos (by simp [Region.wanted, hg])]
  refine ⟨fun _ _ => trivial, ?_⟩
  show o.uponIn (Fw none) m P (mkA n s ds) _ Q ((o.semAt none (mkA n s ds).eval).run P w)
  rw [semAt_any hd, mkA_eval, hr]
  exact h
theorem defer_in {P : Program} {n m : Nat} {o : Oper} {os : List Oper} {ops : Array Oper} {s : Nat → Value} {w w' : World} {Q : Exit → Act → World → Prop} {ds : List Deferred} {d : Deferred}
    (hr : (o.semAt none (evF n s)).run P w = .ok (.defer d) w') (h : wpListIn (Fw none) m P ops Q os (mkA n s (d :: ds)) w') (hg : o.guard = none := by rfl) (hdst : o.dst = none := by rfl) : wpListIn (Fw none) m P ops Q (o :: os) (mkA n s ds) w := by
  unfold wpListIn
  rw [if_pos (by simp [Region.wanted, hg])]
  refine ⟨fun _ _ => trivial, ?_⟩
  show o.uponIn (Fw none) m P (mkA n s ds) _ Q ((o.semAt none (mkA n s ds).eval).run P w)
  rw [mkA_eval, hr, Oper.uponIn_defer, hdst]
  exact h

/-- a range over a function of ours that returns, or panics -/
theorem wp_range_p {P : Program} {α : Type} {g : Operand} {ps : Array Tmp} {assign body : Code} {Q : Exit → Act → World → Prop} {a : Act} {w : World} {gf : Nat} {lb : Array Value} (enc : α → Value)
    (hg : a.eval g = .func (.func gf) #[] lb) (eg : ∀ args w, (callFunc gf args).run P w = .ok (.enter gf args) w) (hps : ps.size = 1)
    (J : List α → World → Prop) (M : List α → α → World → Prop) (Fin : List α → Prop) (Dn : List PanicEntry → World → Prop)
    (hJ : ∀ pre W r r', J pre W → LoopAt W w.heap.size r → J pre (W.putObj (w.heap.size + 1) (.loop r')))
    (h0 : ∀ r, J [] ((w.alloc (.deferred (some []))).alloc (.loop r)))
    (hiter : ∀ (r : Loop) (W : World), J [] W → LoopAt W w.heap.size r →
      (∀ pre x W1, M pre x W1 → LoopAt W1 w.heap.size r → YieldAt Fence.wide 0 P (w.heap.size + 1) #[enc x] W1 fun e W' => e = .returned (.bool true) ∧ J (pre ++ [x]) W' ∧ LoopAt W' w.heap.size r) →
      Calls P gf (#[.func (.yield (w.heap.size + 1)) #[] #[]] ++ lb) W fun e W' => ((∃ v, e = .returned v) ∧ ∃ xs, J xs W' ∧ Fin xs ∧ LoopAt W' w.heap.size r) ∨ (∃ ch, e = .panicked ch ∧ Dn ch W' ∧ LoopAt W' w.heap.size r))
    (hround : ∀ pre x W r, M pre x W → LoopAt W w.heap.size r →
      assign.wpIn (Fence.wide.inRound (w.heap.size + 1)) 0 P (Exit.then (fun a₁ W₁ => LoopAt W₁ w.heap.size r ∧ ∀ r', body.wpIn (Fence.wide.inRound (w.heap.size + 1)) 0 P (fun e _ W' => e = .normal ∧ J (pre ++ [x]) W' ∧ LoopAt W' w.heap.size r') a₁ (W₁.putObj (w.heap.size + 1) (.loop r'))) (fun _ _ _ => False))
        { tmps := (ps.zip #[enc x]).foldl (fun t (p, v) => t.setIfInBounds p v) a.tmps, defers := [] } W)
    (hdone : ∀ xs W, J xs W → Fin xs → W.heap[w.heap.size]? = some (.deferred (some [])) → Q .normal { a with defers := { target := .collected w.heap.size, args := #[] } :: a.defers } W)
    (hdie : ∀ ch W, Dn ch W → W.heap[w.heap.size]? = some (.deferred (some [])) → Q (.panic ch) { a with defers := { target := .collected w.heap.size, args := #[] } :: a.defers } W) :
    (Code.rangeFunc g ps assign body).wp P Q a w := by
  refine (wpIn_wide (n := 0)).1 (wpIn_rangeFunc ?_)
  intro fn hfn
  let rec0 : Loop := { state := .ready, pending := none, fn := fn, tmps := a.tmps, params := ps, assign := assign, body := body, defers := w.heap.size }
  let W1 : World := (w.alloc (.deferred (some []))).alloc (.loop rec0)
  have hL1 : LoopAt W1 w.heap.size rec0 := by
    refine ⟨?_, ?_⟩
    · have := World.alloc_heap_new (w.alloc (.deferred (some []))) (.loop rec0)
      rwa [World.size_alloc] at this
    · exact (Below.heap_alloc _ _ _ (by simp)).trans (World.alloc_heap_new w _)
  refine ⟨w.heap.size + 1, [{ target := .collected w.heap.size, args := #[] }], W1, { target := .fn (.func gf) lb, args := #[.func (.yield (w.heap.size + 1)) #[] #[]] }, W1, gf,
    #[.func (.yield (w.heap.size + 1)) #[] #[]] ++ lb, W1, run_enterLoop_outer _ _ _ _ _, ?_, fun _ _ => trivial, ?_, fun h => (by simp [Fence.wide] at h), ?_⟩
  · simp only [resolve, hg]
    simp [go_sem]
  · simp [invoke, go_sem, eg]
  · refine callsIn_wide.2 ((hiter rec0 W1 (h0 rec0) hL1 ?_).mono ?_)
    · intro pre x W hm hl
      refine ⟨fn, _, assign, body, run_yield (P := P) (args := #[enc x]) hl.1 (by show _ = ps.size; rw [hps]; rfl), roundIn_of_wpIn trivial ?_⟩
      refine wpIn_mono (hround pre x W rec0 hm hl) ?_
      intro e a1 W2 h
      cases e with
      | normal =>
        obtain ⟨hl2, hb⟩ := h
        refine ⟨_, run_beginRound hl2.1 rfl, wpIn_mono (hb _) ?_⟩
        rintro e a3 W3 ⟨rfl, hj3, hl3⟩
        exact ⟨_, _, run_endRound none hl3.1, rfl, hJ _ _ _ _ hj3 hl3, hl3.put⟩
      | exit id => exact h
      | goto t => exact h
      | ret => exact h
      | panic ch => exact h
      | outgrown => exact h
    · rintro e W2 (⟨⟨v, rfl⟩, xs, hj, hf, hl⟩ | ⟨ch, rfl, hd, hl⟩)
      · exact ⟨none, _, run_endLoop (P := P) hl.1 (by show LoopState.ready ≠ LoopState.busy; decide), hdone xs _ (hJ _ _ _ _ hj hl) hf ((World.putObj_heap_other (by omega)).trans hl.2)⟩
      · exact hdie ch W2 hd hl.2

/- inside a round: a region that draws its order -/
section
variable {P : Program} {n m : Nat} {ρ : Option Nat} {ops : Array Oper} {Q : Exit → Act → World → Prop}
theorem opwp_in {o : Oper} {a : Act} {w : World} {K : Act → World → Prop} (hd : ∀ c, o.op ≠ .defer c) (h : o.wp P a w K Q) : o.wpIn (Fw ρ) m P a w K Q := by
  refine ⟨fun _ _ => trivial, ?_⟩
  show o.uponIn (Fw ρ) m P a K Q ((o.semAt ρ a.eval).run P w)
  rw [semAt_any hd]
  unfold Oper.wp at h
  generalize (execOp a.eval o).run P w = r at *
  cases r with
  | ok nx w' =>
    cases nx with
    | value v => simp only [Oper.upon] at h; rw [Oper.uponIn_value]; exact h
    | skip => simp only [Oper.upon] at h; rw [Oper.uponIn_skip]; exact h
    | enter f args =>
      simp only [Oper.upon] at h
      rw [Oper.uponIn_enter]
      exact ⟨fun h => (by simp [Fw, Fence.wide] at h), callsIn_Fw h⟩
    | row r args =>
      simp only [Oper.upon] at h
      refine ⟨fun h => (by simp [Fw, Fence.wide] at h), ?_⟩
      intro c cs _
      obtain ⟨v, w'', hk, hs⟩ := h c cs
      exact ⟨v, w'', hk, stepsIn_wide.2 hs⟩
    | defer d => simp only [Oper.upon] at h; rw [Oper.uponIn_defer]; exact h
    | _ => exact (h : False).elim
  | halt x w' =>
    cases x with
    | panic v => exact h
    | _ => exact (h : False).elim
theorem any_in (hd : ∀ (i : Nat) (o : Oper), ops[i]? = some o → ∀ c, o.op ≠ .defer c) (hQ : ¬ LetsOut Q) : ∀ (fuel : Nat) (listed : Array Bool) (a : Act) (w : World), wpAny P .any ops Q fuel listed a w → wpAnyIn (Fw ρ) m P .any ops Q fuel listed a w
  | 0, _, _, _, h => h
  | fuel + 1, listed, a, w, h => by
    refine ⟨h.1, fun i hi => ?_⟩
    have h1 := h.2 i hi
    unfold wpOp at h1
    unfold wpOpIn
    cases ho : ops[i]? with
    | none => rw [ho] at h1; exact any_in hd hQ fuel _ a w h1
    | some o =>
      rw [ho] at h1
      simp only at h1 ⊢
      split
      · rename_i hw
        rw [if_pos hw] at h1
        rcases h1 with h1 | ⟨_, h2⟩
        · exact opwp_in (hd i o ho) (Oper.wp_mono (fun a' w' h' => any_in hd hQ fuel _ a' w' h') h1)
        · exact absurd h2 hQ
      · rename_i hw
        rw [if_neg hw] at h1
        exact ⟨fun _ _ => trivial, any_in hd hQ fuel _ _ w h1⟩
end
section
variable {ds : List Deferred}
theorem regionI_any {P : Program} {l : List Oper} {n : Nat} {Q : Exit → Act → World → Prop} {s : Nat → Value} {w : World} (J : (Nat → Bool) → (Nat → Value) → World → Prop)
    (hm : P.follows .mixedOrders = true) (hb : backB l.toArray = true) (hd : dstB l.toArray (List.range n) = true)
    (h0 : J (fun _ => false) (fun d => if d < n then s d else undef) w.drew)
    (he : ∀ s w, J (fun j => decide (j < l.length)) s w → Q .normal (mkA n s ds) w)
    (hs : invF P l.toArray n J 0 l) : wpAny P .any l.toArray Q l.toArray.size (Array.replicate l.toArray.size false) (mkA n s ds) w.drew := by
  have hset : ∀ s', setAll (mkA n s ds) (List.range n) s' = mkA n s' ds := by
    intro s'
    apply Act.ext'
    · apply Array.ext_getElem?
      intro k
      (try simp only [mkA_tmps])
      rw [setAll_get]; show (if k ∈ List.range n ∧ k < (tmA n s).size then some (s' k) else (tmA n s)[k]?) = (tmA n s')[k]?; rw [mkA_get, mkA_get]
      have hsz : (tmA n s).size = n := by simp [tmA]
      rw [hsz]
      by_cases hk : k < n
      · simp [hk]
      · simp [hk]
    · rw [setAll_defers]; rfl
  have hs' := invF_steps (s0 := s) (ds := ds) (Q := Q) (P := P) l 0 ?_ hs
  · have e0 : (fun d => (tmA n s).getD d undef) = fun d => if d < n then s d else undef := by
      funext d
      rw [Array.getD_eq_getD_getElem?, mkA_get]; split <;> rfl
    have := inv_any (P := P) (ops := l.toArray) (Q := Q) (a0 := mkA n s ds) (ds := List.range n) (J := J) hb hd (by simpa using hs') (by
      intro s' w' hj; rw [hset]; exact he s' w' (by simpa using hj)) l.toArray.size (Array.replicate l.toArray.size false) (fun d => (tmA n s).getD d undef) w.drew (by simp)
      (by
        have : (fun j => (Array.replicate l.toArray.size false).getD j false) = fun _ => false := by
          funext j
          simp only [Array.getD_eq_getD_getElem?, Array.getElem?_replicate]
          split <;> rfl
        rw [this, e0]; exact h0)
      (.inr (Nat.le_trans List.countP_le_length (by simp)))
    have hself : setAll (mkA n s ds) (List.range n) (fun d => (tmA n s).getD d undef) = mkA n s ds := setAll_self (mkA n s ds) (List.range n)
    rw [hself] at this
    exact this
  · intro o ho d hdst
    unfold dstB at hd
    rw [Array.all_eq_true] at hd
    obtain ⟨i, hi, rfl⟩ := List.mem_iff_getElem.1 ho
    have := hd i (by simpa using hi)
    simp only [List.getElem_toArray, hdst] at this
    simpa using this

theorem regionI_FI {P : Program} {id m : Nat} {ρ : Option Nat} {l : List Oper} {n : Nat} {Q : Exit → Act → World → Prop} {s : Nat → Value} {w : World} (J : (Nat → Bool) → (Nat → Value) → World → Prop) (hq : ¬ LetsOut Q) (hnd : noDefer l = true)
    (hm : P.follows .mixedOrders = true) (hb : backB l.toArray = true) (hd : dstB l.toArray (List.range n) = true)
    (h0 : J (fun _ => false) (fun d => if d < n then s d else undef) w.drew)
    (he : ∀ s w, J (fun j => decide (j < l.length)) s w → Q .normal (mkA n s ds) w)
    (hs : invF P l.toArray n J 0 l) : (Code.region id l.toArray true).wpIn (Fw ρ) m P Q (mkA n s ds) w := by
  refine wpIn_region_any hm (any_in ?_ hq _ _ _ _ (regionI_any J hm hb hd h0 he hs))
  intro i o ho c hc
  unfold noDefer at hnd
  rw [List.all_eq_true] at hnd
  have hmem : o ∈ l := by
    rw [List.getElem?_toArray] at ho
    exact List.mem_of_getElem? ho
  have := hnd o hmem
  rw [hc] at this
  exact absurd this (by simp)
end

/-- a loop whose rounds may add to the deferred calls -/
theorem loop_D {P : Program} {c : Code} {n : Nat} {Q : Exit → Act → World → Prop} (J : Nat → (Nat → Value) → List Deferred → World → Prop) {k0 : Nat} {s0 : Nat → Value} {d0 : List Deferred} {w0 : World} (h0 : J k0 s0 d0 w0)
    (round : ∀ k s d w, J k s d w → c.wp P (Exit.then (fun a' w' => ∃ k' s' d', a' = mkA n s' d' ∧ k' < k ∧ J k' s' d' w') Q) (mkA n s d) w) : (Code.loop c).wp P Q (mkA n s0 d0) w0 := by
  classical
  let p : Act → World → Nat → Prop := fun a w k => ∃ s d, a = mkA n s d ∧ J k s d w
  let μ : Act → World → Nat := fun a w => if h : ∃ k, p a w k then Classical.choose (least_ex h) else 0
  refine wp_loop (fun a w => ∃ k, p a w k) μ ⟨k0, s0, d0, rfl, h0⟩ ?_
  intro a w hI
  have hμ : μ a w = Classical.choose (least_ex hI) := by show (if h : _ then _ else _) = _; rw [dif_pos hI]
  obtain ⟨⟨s, d, rfl, hJ⟩, hmin⟩ := Classical.choose_spec (least_ex hI)
  refine wp_mono (round _ s d w hJ) ?_
  intro e a' w' h
  cases e with
  | normal =>
    obtain ⟨k', s', d', rfl, hlt, hJ'⟩ := h
    have hI' : ∃ k, p (mkA n s' d') w' k := ⟨k', s', d', rfl, hJ'⟩
    refine ⟨hI', ?_⟩
    have hμ' : μ (mkA n s' d') w' = Classical.choose (least_ex hI') := by show (if h : _ then _ else _) = _; rw [dif_pos hI']
    rw [hμ, hμ']
    exact Nat.lt_of_le_of_lt ((Classical.choose_spec (least_ex hI')).2 k' ⟨s', d', rfl, hJ'⟩) hlt
  | exit id => exact h
  | goto l => exact h
  | ret => exact h
  | panic ch => exact h
  | outgrown => exact h

/- the marks of ranges among the deferred calls -/
def marks (Ds : List Nat) (d0 : List Deferred) : List Deferred := Ds.map (fun D => { target := .collected D, args := #[] }) ++ d0
def shut : List Nat → World → World
  | [], w => w
  | D :: Ds, w => shut Ds (w.putObj D (.deferred none))
theorem leave_marks {P : Program} {fn : Func} {tmps : Array Value} {R : Ending → World → Prop} {u : FrameMode} {d0 : List Deferred} (hu : u ≠ .run) : ∀ (Ds : List Nat) (w : World), (∀ D ∈ Ds, w.heap[D]? = some (.deferred (some []))) → Ds.Nodup →
    LeavesInM Fence.wide 0 P fn tmps R d0 u (shut Ds w) → LeavesInM Fence.wide 0 P fn tmps R (marks Ds d0) u w
  | [], _, _, _, h => h
  | D :: Ds, w, hD, hn, h => by
    obtain ⟨hn1, hn2⟩ := List.nodup_cons.1 hn
    refine ⟨hu, .inl ⟨D, _, rfl, run_takeDeferred (hD D (by simp)), leave_marks hu Ds _ ?_ hn2 h⟩⟩
    intro E hE
    have hne : E ≠ D := fun e => hn1 (by rw [← e]; exact hE)
    exact (World.putObj_heap_other hne).trans (hD E (List.mem_cons_of_mem _ hE))
theorem shut_block : ∀ (Ds : List Nat) (w : World) (k : Nat), k ∉ Ds → (shut Ds w).heap[k]? = w.heap[k]?
  | [], _, _, _ => rfl
  | D :: Ds, w, k, h => by
    have h1 : k ≠ D := fun e => h (by simp [e])
    exact (shut_block Ds _ k (fun hm => h (List.mem_cons_of_mem _ hm))).trans (World.putObj_heap_other h1)
theorem shut_size : ∀ (Ds : List Nat) (w : World), (shut Ds w).heap.size = w.heap.size
  | [], _ => rfl
  | D :: Ds, w => (shut_size Ds _).trans (by rw [World.putObj_size])
theorem below_shut {N : Nat} {w0 : World} : ∀ (Ds : List Nat) (w : World), Below N w0 w → (∀ D ∈ Ds, N ≤ D) → Below N w0 (shut Ds w)
  | [], _, h, _ => h
  | D :: Ds, w, h, hD => below_shut Ds _ (bel_put h (hD D (by simp))) (fun E hE => hD E (List.mem_cons_of_mem _ hE))
theorem Cells.shut {w : World} {b : Nat} {l : List Value} (h : Cells w b l) {Ds : List Nat} (hn : b ∉ Ds) : Cells (shut Ds w) b l := h.kept (shut_block Ds w b hn) (by rw [shut_size]; exact Nat.le_refl _)

end Go.Proofs.Ytndcmmghgljinaa
