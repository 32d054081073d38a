/- changes and the function that it returns. -/
import Derived.Test.YtndcmmghgljinaardM1
import Derived.RecoverIn
import Derived.OrdersIn
import Derived.Test.YtndcmmghgljinaardW37
import Derived.Test.YtndcmmghgljinaardW3
set_option linter.all false
namespace Go.Proofs.Ytndcmmghgljinaa

section
open Go.RowKit

theorem panic_in {P : Program} {n m : Nat} {o : Oper} {os : List Oper} {ops : Array Oper} {s : Nat → Value} {w w' : World} {Q : Exit → Act → World → Prop} {ds : List Deferred} {v : Value}
    (hr : (execOp (evF n s) o).run P w = .halt (.panic v) w') (h : Q (.panic [{ v, recovered := false }]) (mkA n s ds) w') (hg : o.guard = none := by rfl) (hd : ∀ c, o.op ≠ .defer c := by intro c h; cases h) : wpListIn (Fw none) m P ops Q (o :: os) (mkA n s ds) w := by
  unfold wpListIn
  rw [if_pos (by simp [Region.wanted, hg])]
  refine ⟨fun _ _ => trivial, ?_⟩
  show o.uponIn (Fw none) m P (mkA n s ds) _ Q ((o.semAt none (mkA n s ds).eval).run P w)
  rw [semAt_any hd, mkA_eval, hr]
  exact h
theorem defer_in {P : Program} {n m : Nat} {o : Oper} {os : List Oper} {ops : Array Oper} {s : Nat → Value} {w w' : World} {Q : Exit → Act → World → Prop} {ds : List Deferred} {d : Deferred}
    (hr : (o.semAt none (evF n s)).run P w = .ok (.defer d) w') (h : wpListIn (Fw none) m P ops Q os (mkA n s (d :: ds)) w') (hg : o.guard = none := by rfl) (hdst : o.dst = none := by rfl) : wpListIn (Fw none) m P ops Q (o :: os) (mkA n s ds) w := by
  unfold wpListIn
  rw [if_pos (by simp [Region.wanted, hg])]
  refine ⟨fun _ _ => trivial, ?_⟩
  show o.uponIn (Fw none) m P (mkA n s ds) _ Q ((o.semAt none (mkA n s ds).eval).run P w)
  rw [mkA_eval, hr, Oper.uponIn_defer, hdst]
  exact h

/-- a range over a function of ours that returns, or panics -/
theorem wp_range_p {P : Program} {α : Type} {g : Operand} {ps : Array Tmp} {assign body : Code} {Q : Exit → Act → World → Prop} {a : Act} {w : World} {gf : Nat} {lb : Array Value} (enc : α → Value)
    (hg : a.eval g = .func (.func gf) #[] lb) (eg : ∀ args w, (callFunc gf args).run P w = .ok (.enter gf args) w) (hps : ps.size = 1)
    (J : List α → World → Prop) (M : List α → α → World → Prop) (Fin : List α → Prop) (Dn : List PanicEntry → World → Prop)
    (hJ : ∀ pre W r r', J pre W → LoopAt W w.heap.size r → J pre (W.putObj (w.heap.size + 1) (.loop r')))
    (h0 : ∀ r, J [] ((w.alloc (.deferred (some []))).alloc (.loop r)))
    (hiter : ∀ (r : Loop) (W : World), J [] W → LoopAt W w.heap.size r →
      (∀ pre x W1, M pre x W1 → LoopAt W1 w.heap.size r → YieldAt Fence.wide 0 P (w.heap.size + 1) #[enc x] W1 fun e W' => e = .returned (.bool true) ∧ J (pre ++ [x]) W' ∧ LoopAt W' w.heap.size r) →
      Calls P gf (#[.func (.yield (w.heap.size + 1)) #[] #[]] ++ lb) W fun e W' => ((∃ v, e = .returned v) ∧ ∃ xs, J xs W' ∧ Fin xs ∧ LoopAt W' w.heap.size r) ∨ (∃ ch, e = .panicked ch ∧ Dn ch W' ∧ LoopAt W' w.heap.size r))
    (hround : ∀ pre x W r, M pre x W → LoopAt W w.heap.size r →
      assign.wpIn (Fence.wide.inRound (w.heap.size + 1)) 0 P (Exit.then (fun a₁ W₁ => LoopAt W₁ w.heap.size r ∧ ∀ r', body.wpIn (Fence.wide.inRound (w.heap.size + 1)) 0 P (fun e _ W' => e = .normal ∧ J (pre ++ [x]) W' ∧ LoopAt W' w.heap.size r') a₁ (W₁.putObj (w.heap.size + 1) (.loop r'))) (fun _ _ _ => False))
        { tmps := (ps.zip #[enc x]).foldl (fun t (p, v) => t.setIfInBounds p v) a.tmps, defers := [] } W)
    (hdone : ∀ xs W, J xs W → Fin xs → W.heap[w.heap.size]? = some (.deferred (some [])) → Q .normal { a with defers := { target := .collected w.heap.size, args := #[] } :: a.defers } W)
    (hdie : ∀ ch W, Dn ch W → W.heap[w.heap.size]? = some (.deferred (some [])) → Q (.panic ch) { a with defers := { target := .collected w.heap.size, args := #[] } :: a.defers } W) :
    (Code.rangeFunc g ps assign body).wp P Q a w := by
  refine (wpIn_wide (n := 0)).1 (wpIn_rangeFunc ?_)
  intro fn hfn
  let rec0 : Loop := { state := .ready, pending := none, fn := fn, tmps := a.tmps, params := ps, assign := assign, body := body, defers := w.heap.size }
  let W1 : World := (w.alloc (.deferred (some []))).alloc (.loop rec0)
  have hL1 : LoopAt W1 w.heap.size rec0 := by
    refine ⟨?_, ?_⟩
    · have := World.alloc_heap_new (w.alloc (.deferred (some []))) (.loop rec0)
      rwa [World.size_alloc] at this
    · exact (Below.heap_alloc _ _ _ (by simp)).trans (World.alloc_heap_new w _)
  refine ⟨w.heap.size + 1, [{ target := .collected w.heap.size, args := #[] }], W1, { target := .fn (.func gf) lb, args := #[.func (.yield (w.heap.size + 1)) #[] #[]] }, W1, gf,
    #[.func (.yield (w.heap.size + 1)) #[] #[]] ++ lb, W1, run_enterLoop_outer _ _ _ _ _, ?_, fun _ _ => trivial, ?_, fun h => (by simp [Fence.wide] at h), ?_⟩
  · simp only [resolve, hg]
    simp [go_sem]
  · simp [invoke, go_sem, eg]
  · refine callsIn_wide.2 ((hiter rec0 W1 (h0 rec0) hL1 ?_).mono ?_)
    · intro pre x W hm hl
      refine ⟨fn, _, assign, body, run_yield (P := P) (args := #[enc x]) hl.1 (by show _ = ps.size; rw [hps]; rfl), roundIn_of_wpIn trivial ?_⟩
      refine wpIn_mono (hround pre x W rec0 hm hl) ?_
      intro e a1 W2 h
      cases e with
      | normal =>
        obtain ⟨hl2, hb⟩ := h
        refine ⟨_, run_beginRound hl2.1 rfl, wpIn_mono (hb _) ?_⟩
        rintro e a3 W3 ⟨rfl, hj3, hl3⟩
        exact ⟨_, _, run_endRound none hl3.1, rfl, hJ _ _ _ _ hj3 hl3, hl3.put⟩
      | exit id => exact h
      | goto t => exact h
      | ret => exact h
      | panic ch => exact h
      | outgrown => exact h
    · rintro e W2 (⟨⟨v, rfl⟩, xs, hj, hf, hl⟩ | ⟨ch, rfl, hd, hl⟩)
      · exact ⟨none, _, run_endLoop (P := P) hl.1 (by show LoopState.ready ≠ LoopState.busy; decide), hdone xs _ (hJ _ _ _ _ hj hl) hf ((World.putObj_heap_other (by omega)).trans hl.2)⟩
      · exact hdie ch W2 hd hl.2

/- inside a round: a region that draws its order -/
section
variable {P : Program} {n m : Nat} {ρ : Option Nat} {ops : Array Oper} {Q : Exit → Act → World → Prop}
theorem opwp_in {o : Oper} {a : Act} {w : World} {K : Act → World → Prop} (hd : ∀ c, o.op ≠ .defer c) (h : o.wp P a w K Q) : o.wpIn (Fw ρ) m P a w K Q := by
  refine ⟨fun _ _ => trivial, ?_⟩
  show o.uponIn (Fw ρ) m P a K Q ((o.semAt ρ a.eval).run P w)
  rw [semAt_any hd]
  unfold Oper.wp at h
  generalize (execOp a.eval o).run P w = r at *
  cases r with
  | ok nx w' =>
    cases nx with
    | value v => simp only [Oper.upon] at h; rw [Oper.uponIn_value]; exact h
    | skip => simp only [Oper.upon] at h; rw [Oper.uponIn_skip]; exact h
    | enter f args =>
      simp only [Oper.upon] at h
      rw [Oper.uponIn_enter]
      exact ⟨fun h => (by simp [Fw, Fence.wide] at h), callsIn_Fw h⟩
    | row r args =>
      simp only [Oper.upon] at h
      refine ⟨fun h => (by simp [Fw, Fence.wide] at h), ?_⟩
      intro c cs _
      obtain ⟨v, w'', hk, hs⟩ := h c cs
      exact ⟨v, w'', hk, stepsIn_wide.2 hs⟩
    | defer d => simp only [Oper.upon] at h; rw [Oper.uponIn_defer]; exact h
    | _ => exact (h : False).elim
  | halt x w' =>
    cases x with
    | panic v => exact h
    | _ => exact (h : False).elim
theorem any_in (hd : ∀ (i : Nat) (o : Oper), ops[i]? = some o → ∀ c, o.op ≠ .defer c) (hQ : ¬ LetsOut Q) : ∀ (fuel : Nat) (listed : Array Bool) (a : Act) (w : World), wpAny P .any ops Q fuel listed a w → wpAnyIn (Fw ρ) m P .any ops Q fuel listed a w
  | 0, _, _, _, h => h
  | fuel + 1, listed, a, w, h => by
    refine ⟨h.1, fun i hi => ?_⟩
    have h1 := h.2 i hi
    unfold wpOp at h1
    unfold wpOpIn
    cases ho : ops[i]? with
    | none => rw [ho] at h1; exact any_in hd hQ fuel _ a w h1
    | some o =>
      rw [ho] at h1
      simp only at h1 ⊢
      split
      · rename_i hw
        rw [if_pos hw] at h1
        rcases h1 with h1 | ⟨_, h2⟩
        · exact opwp_in (hd i o ho) (Oper.wp_mono (fun a' w' h' => any_in hd hQ fuel _ a' w' h') h1)
        · exact absurd h2 hQ
      · rename_i hw
        rw [if_neg hw] at h1
        exact ⟨fun _ _ => trivial, any_in hd hQ fuel _ _ w h1⟩
end
section
variable {ds : List Deferred}
theorem regionI_any {P : Program} {l : List Oper} {n : Nat} {Q : Exit → Act → World → Prop} {s : Nat → Value} {w : World} (J : (Nat → Bool) → (Nat → Value) → World → Prop)
    (hm : P.follows .mixedOrders = true) (hb : backB l.toArray = true) (hd : dstB l.toArray (List.range n) = true)
    (h0 : J (fun _ => false) (fun d => if d < n then s d else undef) w.drew)
    (he : ∀ s w, J (fun j => decide (j < l.length)) s w → Q .normal (mkA n s ds) w)
    (hs : invF P l.toArray n J 0 l) : wpAny P .any l.toArray Q l.toArray.size (Array.replicate l.toArray.size false) (mkA n s ds) w.drew := by
  have hset : ∀ s', setAll (mkA n s ds) (List.range n) s' = mkA n s' ds := by
    intro s'
    apply Act.ext'
    · apply Array.ext_getElem?
      intro k
      (try simp only [mkA_tmps])
      rw [setAll_get]; show (if k ∈ List.range n ∧ k < (tmA n s).size then some (s' k) else (tmA n s)[k]?) = (tmA n s')[k]?; rw [mkA_get, mkA_get]
      have hsz : (tmA n s).size = n := by simp [tmA]
      rw [hsz]
      by_cases hk : k < n
      · simp [hk]
      · simp [hk]
    · rw [setAll_defers]; rfl
  have hs' := invF_steps (s0 := s) (ds := ds) (Q := Q) (P := P) l 0 ?_ hs
  · have e0 : (fun d => (tmA n s).getD d undef) = fun d => if d < n then s d else undef := by
      funext d
      rw [Array.getD_eq_getD_getElem?, mkA_get]; split <;> rfl
    have := inv_any (P := P) (ops := l.toArray) (Q := Q) (a0 := mkA n s ds) (ds := List.range n) (J := J) hb hd (by simpa using hs') (by
      intro s' w' hj; rw [hset]; exact he s' w' (by simpa using hj)) l.toArray.size (Array.replicate l.toArray.size false) (fun d => (tmA n s).getD d undef) w.drew (by simp)
      (by
        have : (fun j => (Array.replicate l.toArray.size false).getD j false) = fun _ => false := by
          funext j
          simp only [Array.getD_eq_getD_getElem?, Array.getElem?_replicate]
          split <;> rfl
        rw [this, e0]; exact h0)
      (.inr (Nat.le_trans List.countP_le_length (by simp)))
    have hself : setAll (mkA n s ds) (List.range n) (fun d => (tmA n s).getD d undef) = mkA n s ds := setAll_self (mkA n s ds) (List.range n)
    rw [hself] at this
    exact this
  · intro o ho d hdst
    unfold dstB at hd
    rw [Array.all_eq_true] at hd
    obtain ⟨i, hi, rfl⟩ := List.mem_iff_getElem.1 ho
    have := hd i (by simpa using hi)
    simp only [List.getElem_toArray, hdst] at this
    simpa using this

theorem regionI_FI {P : Program} {id m : Nat} {ρ : Option Nat} {l : List Oper} {n : Nat} {Q : Exit → Act → World → Prop} {s : Nat → Value} {w : World} (J : (Nat → Bool) → (Nat → Value) → World → Prop) (hq : ¬ LetsOut Q) (hnd : noDefer l = true)
    (hm : P.follows .mixedOrders = true) (hb : backB l.toArray = true) (hd : dstB l.toArray (List.range n) = true)
    (h0 : J (fun _ => false) (fun d => if d < n then s d else undef) w.drew)
    (he : ∀ s w, J (fun j => decide (j < l.length)) s w → Q .normal (mkA n s ds) w)
    (hs : invF P l.toArray n J 0 l) : (Code.region id l.toArray true).wpIn (Fw ρ) m P Q (mkA n s ds) w := by
  refine wpIn_region_any hm (any_in ?_ hq _ _ _ _ (regionI_any J hm hb hd h0 he hs))
  intro i o ho c hc
  unfold noDefer at hnd
  rw [List.all_eq_true] at hnd
  have hmem : o ∈ l := by
    rw [List.getElem?_toArray] at ho
    exact List.mem_of_getElem? ho
  have := hnd o hmem
  rw [hc] at this
  exact absurd this (by simp)
end

/-- a loop whose rounds may add to the deferred calls -/
theorem loop_D {P : Program} {c : Code} {n : Nat} {Q : Exit → Act → World → Prop} (J : Nat → (Nat → Value) → List Deferred → World → Prop) {k0 : Nat} {s0 : Nat → Value} {d0 : List Deferred} {w0 : World} (h0 : J k0 s0 d0 w0)
    (round : ∀ k s d w, J k s d w → c.wp P (Exit.then (fun a' w' => ∃ k' s' d', a' = mkA n s' d' ∧ k' < k ∧ J k' s' d' w') Q) (mkA n s d) w) : (Code.loop c).wp P Q (mkA n s0 d0) w0 := by
  classical
  let p : Act → World → Nat → Prop := fun a w k => ∃ s d, a = mkA n s d ∧ J k s d w
  let μ : Act → World → Nat := fun a w => if h : ∃ k, p a w k then Classical.choose (least_ex h) else 0
  refine wp_loop (fun a w => ∃ k, p a w k) μ ⟨k0, s0, d0, rfl, h0⟩ ?_
  intro a w hI
  have hμ : μ a w = Classical.choose (least_ex hI) := by show (if h : _ then _ else _) = _; rw [dif_pos hI]
  obtain ⟨⟨s, d, rfl, hJ⟩, hmin⟩ := Classical.choose_spec (least_ex hI)
  refine wp_mono (round _ s d w hJ) ?_
  intro e a' w' h
  cases e with
  | normal =>
    obtain ⟨k', s', d', rfl, hlt, hJ'⟩ := h
    have hI' : ∃ k, p (mkA n s' d') w' k := ⟨k', s', d', rfl, hJ'⟩
    refine ⟨hI', ?_⟩
    have hμ' : μ (mkA n s' d') w' = Classical.choose (least_ex hI') := by show (if h : _ then _ else _) = _; rw [dif_pos hI']
    rw [hμ, hμ']
    exact Nat.lt_of_le_of_lt ((Classical.choose_spec (least_ex hI')).2 k' ⟨s', d', rfl, hJ'⟩) hlt
  | exit id => exact h
  | goto l => exact h
  | ret => exact h
  | panic ch => exact h
  | outgrown => exact h

/- the marks of ranges among the deferred calls -/
def marks (Ds : List Nat) (d0 : List Deferred) : List Deferred := Ds.map (fun D => { target := .collected D, args := #[] }) ++ d0
def shut : List Nat → World → World
  | [], w => w
  | D :: Ds, w => shut Ds (w.putObj D (.deferred none))
theorem leave_marks {P : Program} {fn : Func} {tmps : Array Value} {R : Ending → World → Prop} {u : FrameMode} {d0 : List Deferred} (hu : u ≠ .run) : ∀ (Ds : List Nat) (w : World), (∀ D ∈ Ds, w.heap[D]? = some (.deferred (some []))) → Ds.Nodup →
    LeavesInM Fence.wide 0 P fn tmps R d0 u (shut Ds w) → LeavesInM Fence.wide 0 P fn tmps R (marks Ds d0) u w
  | [], _, _, _, h => h
  | D :: Ds, w, hD, hn, h => by
    obtain ⟨hn1, hn2⟩ := List.nodup_cons.1 hn
    refine ⟨hu, .inl ⟨D, _, rfl, run_takeDeferred (hD D (by simp)), leave_marks hu Ds _ ?_ hn2 h⟩⟩
    intro E hE
    have hne : E ≠ D := fun e => hn1 (by rw [← e]; exact hE)
    exact (World.putObj_heap_other hne).trans (hD E (List.mem_cons_of_mem _ hE))
theorem shut_block : ∀ (Ds : List Nat) (w : World) (k : Nat), k ∉ Ds → (shut Ds w).heap[k]? = w.heap[k]?
  | [], _, _, _ => rfl
  | D :: Ds, w, k, h => by
    have h1 : k ≠ D := fun e => h (by simp [e])
    exact (shut_block Ds _ k (fun hm => h (List.mem_cons_of_mem _ hm))).trans (World.putObj_heap_other h1)
theorem shut_size : ∀ (Ds : List Nat) (w : World), (shut Ds w).heap.size = w.heap.size
  | [], _ => rfl
  | D :: Ds, w => (shut_size Ds _).trans (by rw [World.putObj_size])
theorem below_shut {N : Nat} {w0 : World} : ∀ (Ds : List Nat) (w : World), Below N w0 w → (∀ D ∈ Ds, N ≤ D) → Below N w0 (shut Ds w)
  | [], _, h, _ => h
  | D :: Ds, w, h, hD => below_shut Ds _ (bel_put h (hD D (by simp))) (fun E hE => hD E (List.mem_cons_of_mem _ hE))
theorem Cells.shut {w : World} {b : Nat} {l : List Value} (h : Cells w b l) {Ds : List Nat} (hn : b ∉ Ds) : Cells (shut Ds w) b l := h.kept (shut_block Ds w b hn) (by rw [shut_size]; exact Nat.le_refl _)
end

section
open Go.RowKit


/-- what the rounds of changes read, and the valve -/
structure ItD (k : Kd) (a : Option Addr) (c : Nat) (V B4 B7 B5 B6 : Nat) (an : Option Addr) (cn : Nat) (l : List Int) (f u : Int) (sp : Span) (h : Int) (W : World) : Prop where
  v : Cells W V (vC k a c sp h)
  b4 : Cells W B4 [.pointer (some ⟨V, 0, none⟩)]
  b7 : Cells W B7 [.int .i64 u]
  b5 : Cells W B5 [.slice an l.length cn]
  b6 : Cells W B6 [.int .i64 f]
  rn : RdInts W an l
  rs : RdSteps W a k.steps
theorem ItD.below {k : Kd} {a : Option Addr} {c V B4 B7 B5 B6 : Nat} {an : Option Addr} {cn : Nat} {l : List Int} {f u : Int} {sp : Span} {h : Int} {W W' : World} (hd : ItD k a c V B4 B7 B5 B6 an cn l f u sp h W) (hb : Below W.heap.size W W') : ItD k a c V B4 B7 B5 B6 an cn l f u sp h W' :=
  ⟨hd.v.at hb, hd.b4.at hb, hd.b7.at hb, hd.b5.at hb, hd.b6.at hb, Rd.at hd.rn hb, Rd.at hd.rs hb⟩
def spOf (k : Kd) (sp0 : Span) (pre : List Int) : Span := if pre = [] then sp0 else newSpan k
def hrOf (l : List Int) (f : Int) (pre : List Int) : Int := (pre.getLast?.map fun x => l.getD x.toNat 0).getD f
theorem spOf_snoc (k : Kd) (sp0 : Span) (pre : List Int) (x : Int) : spOf k sp0 (pre ++ [x]) = newSpan k := by unfold spOf; rw [if_neg (by simp)]
theorem hrOf_snoc (l : List Int) (f : Int) (pre : List Int) (j : Nat) : hrOf l f (pre ++ [(j : Int)]) = l.getD j 0 := by unfold hrOf; simp
theorem Rd.oldN {α : Type} {f : α → List Value} {m : Nat} {w w' : World} {Bs : List Nat} {a : Option Addr} {l : List α} (h : Rd f m w a l) (ho : OldB Bs w w') (hn : l ≠ [] → ∀ b, a = some b → b.block ∉ Bs) : Rd f m w' a l := by
  by_cases hl : l = []
  · exact .inl hl
  · exact h.oldB ho (hn hl)
theorem LoopAt.oldB {W W' : World} {D : Nat} {r : Loop} {Bs : List Nat} (h : LoopAt W D r) (ho : OldB Bs W W') (h1 : ∀ b ∈ Bs, b < D) : LoopAt W' D r :=
  ⟨(ho.block _ (Array.getElem?_eq_some_iff.1 h.1).1 (fun hm => by have := h1 _ hm; omega)).trans h.1, (ho.block _ (Array.getElem?_eq_some_iff.1 h.2).1 (fun hm => by have := h1 _ hm; omega)).trans h.2⟩
theorem lastIn_stop {l : List Int} {f c : Int} {a i : Nat} (hs : ∀ j (h : j + 1 < l.length), l[j] ≤ l[j + 1]) (hi : i ≤ l.length) (hc : ∀ h : i < l.length, ¬ l[i] ≤ c) : ∀ d, i + d ≤ l.length → lastIn l f c a (i + d) = lastIn l f c a i
  | 0, _ => rfl
  | d + 1, h => by
    have ih := lastIn_stop (f := f) (c := c) (a := a) hs hi hc d (by omega)
    have hlt : i + d < l.length := by omega
    have hmono : ∀ e, (he : i + e < l.length) → l[i]'(by omega) ≤ l[i + e] := by
      intro e
      induction e with
      | zero => intro _; exact Int.le_refl _
      | succ e ihe => intro he; have := ihe (by omega); have := hs (i + e) (by omega); show _ ≤ l[i + e + 1]; omega
    show (if a ≤ i + d ∧ f ≤ l.getD (i + d) 0 ∧ l.getD (i + d) 0 ≤ c then _ else _) = _
    rw [getD_get hlt, if_neg (fun x => hc (by omega) (by have := hmono d hlt; omega))]; exact ih
theorem lastIn_val {l : List Int} {f c : Int} {a : Nat} : ∀ {i j : Nat}, lastIn l f c a i = (j : Int) → a ≤ j ∧ j < i ∧ f ≤ l.getD j 0 ∧ l.getD j 0 ≤ c
  | 0, j, h => by unfold lastIn at h; omega
  | i + 1, j, h => by
    unfold lastIn at h
    split at h
    · rename_i hc
      have : i = j := by omega
      subst this; exact ⟨hc.1, by omega, hc.2⟩
    · have := lastIn_val h; exact ⟨this.1, by omega, this.2.2⟩
theorem lastIn_end {l : List Int} {f c : Int} {a i j : Nat} (hs : ∀ j (h : j + 1 < l.length), l[j] ≤ l[j + 1]) (hi : i ≤ l.length) (hall : ∀ t (h : t < l.length), a ≤ t → t < i → l[t] ≤ c) (hj : lastIn l f c a i = (j : Int)) : i = j + 1 := by
  obtain ⟨h1, h2, h3, h4⟩ := lastIn_val hj
  by_cases he : i = j + 1
  · exact he
  · exfalso
    obtain ⟨t, rfl⟩ : ∃ t, i = t + 1 := ⟨i - 1, by omega⟩
    have hlt : t < l.length := by omega
    have hmono : ∀ e, (he : j + e < l.length) → l[j]'(by omega) ≤ l[j + e] := by
      intro e
      induction e with
      | zero => intro _; exact Int.le_refl _
      | succ e ihe => intro he; have := ihe (by omega); have := hs (j + e) (by omega); show _ ≤ l[j + e + 1]; omega
    have hm := hmono (t - j) (by omega)
    have e : l[j + (t - j)]'(by omega) = l[t] := by congr 1; omega
    rw [e] at hm; rw [getD_get (show j < l.length by omega)] at h3; rw [lastIn_succ (by omega) hlt, if_pos ((inb_iff _ _ _).2 ⟨by omega, hall t hlt (by omega) (by omega)⟩)] at hj
    omega
theorem hmf (fn : Fn) (first cap : Array Value) (w : World) : (Instr.makeFunc fn first cap).run Try.prog w = .ok (.func fn first cap) w := rfl

set_option maxRecDepth 100000 in
set_option maxHeartbeats 1000000 in
theorem changes_any (V : Nat) (an : Option Addr) (cn n : Nat) (f u : Int) (w : World) :
    Calls Try.prog 64 #[.pointer (some ⟨V, 0, none⟩), .slice an n cn, .int .i64 f, .int .i64 u] w (fun e w' => ∃ B4 B7 B5 B6, e = .returned (.func (.func 80) #[] #[.pointer (some ⟨B4, 0, none⟩), .pointer (some ⟨B7, 0, none⟩), .pointer (some ⟨B5, 0, none⟩), .pointer (some ⟨B6, 0, none⟩)]) ∧ Cells w' B4 [.pointer (some ⟨V, 0, none⟩)] ∧ Cells w' B7 [.int .i64 u] ∧ Cells w' B5 [.slice an n cn] ∧ Cells w' B6 [.int .i64 f] ∧ (w.heap.size ≤ B4 ∧ w.heap.size ≤ B7 ∧ w.heap.size ≤ B5 ∧ w.heap.size ≤ B6) ∧ Below w.heap.size w w') := by
 have hmf := hmf
 refine enter_F Try.func64 rfl Try.ntmps64 (by simp) ?_
 intro s0 hs; have sl0 : s0 0 = .pointer (some ⟨V, 0, none⟩) := hs 0 (by simp); have sl1 : s0 1 = .slice an n cn := hs 1 (by simp); have sl2 : s0 2 = .int .i64 f := hs 2 (by simp); have sl3 : s0 3 = .int .i64 u := hs 3 (by simp); clear hs; have HB := hid (OldB.refl [] w)
 repeat ((fail_if_success refine stp ?_); with_reducible go_step)
 refine region_F ?_; refine pa (fun w1 B4 hB kb4' hb2 => ?_); have gb4 := HB.out.gB hB; have eb4 := eB hB; clear hB; replace HB := hid (HB.out.below hb2); clear hb2; have kb4 := kb4'; clear kb4'; have qb4 := kb4.1; refine pa (fun w3 B5 hB kb5' hb4 => ?_); have gb5 := HB.out.gB hB; have ob4_b5 := oB qb4 hB; have eb5 := eB hB; clear hB; clear qb4; replace kb4 := kb4.at hb4; replace HB := hid (HB.out.below hb4); clear hb4; have qb4 := kb4.1; have kb5 := kb5'; clear kb5'; have qb5 := kb5.1; refine pa (fun w5 B6 hB kb6' hb6 => ?_); have gb6 := HB.out.gB hB; have ob4_b6 := oB qb4 hB; have ob5_b6 := oB qb5 hB; have eb6 := eB hB; clear hB; clear qb4 qb5; replace kb4 := kb4.at hb6; replace kb5 := kb5.at hb6; replace HB := hid (HB.out.below hb6); clear hb6; have qb4 := kb4.1; have qb5 := kb5.1; have kb6 := kb6'; clear kb6'; have qb6 := kb6.1; refine pa (fun w7 B7 hB kb7' hb8 => ?_); have gb7 := HB.out.gB hB; have ob4_b7 := oB qb4 hB; have ob5_b7 := oB qb5 hB; have ob6_b7 := oB qb6 hB
 have eb7 := eB hB; clear hB; clear qb4 qb5 qb6; replace kb4 := kb4.at hb8; replace kb5 := kb5.at hb8; replace kb6 := kb6.at hb8; replace HB := hid (HB.out.below hb8); clear hb8; have qb4 := kb4.1; have qb5 := kb5.1; have qb6 := kb6.1; have kb7 := kb7'; clear kb7'; have qb7 := kb7.1; refine pl ?_; refine listF_abs (fun s9 z' => ?_); have sl4 := gu 4 z'; have sl5 := gu 5 z'; have sl6 := gu 6 z'; have sl7 := gu 7 z'; clear z' sl0 sl1 sl2 sl3; refine listF_nil ?_
 repeat ((fail_if_success refine stp ?_); with_reducible go_step)
 refine region_F ?_; refine pl ?_; refine pl ?_; refine listF_abs (fun s10 z' => ?_); have sl8 := gu 8 z'; clear z' sl4 sl5 sl6 sl7; refine listF_nil ?_
 repeat ((fail_if_success refine stp ?_); with_reducible go_step)
 refine ret_F _ (res_t Try.results64 ((getD_F (by decide)).trans sl8)) ?_; exact ⟨B4, B7, B5, B6, rfl, kb4, kb7, kb5, kb6, ⟨gb4, gb7, gb5, gb6⟩, HB.out.toBelow⟩


def ChRes (k : Kd) (a : Option Addr) (c V B4 B7 B5 B6 D : Nat) (an : Option Addr) (cn : Nat) (l : List Int) (f u : Int) (sp0 : Span) (I : List Int → World → Prop) (r : Loop) (e : Ending) (W : World) : Prop :=
  ((∃ v, e = .returned v) ∧ ∃ xs, (ItD k a c V B4 B7 B5 B6 an cn l f u (spOf k sp0 xs) (hrOf l f xs) W ∧ I xs W) ∧ planR k l (failsOf k sp0 f).earliest f u = some xs ∧ LoopAt W D r) ∨ (∃ ch, e = .panicked ch ∧ (ch = [{ v := .iface 27 (.int .i64 9), recovered := false }] ∧ planR k l (failsOf k sp0 f).earliest f u = none ∧ ∃ xs, I xs W) ∧ LoopAt W D r)

set_option maxRecDepth 100000 in
set_option maxHeartbeats 8000000 in
theorem changes1_any (k : Kd) (a : Option Addr) (c V B4 B7 B5 B6 D : Nat) (an : Option Addr) (cn : Nat) (l : List Int) (f u : Int) (sp0 : Span) (hK : KOk k) (hsp0 : spanIn sp0) (hf : 0 ≤ f ∧ f ≤ 100000) (hnd : ∀ j (h : j + 1 < l.length), l[j] ≤ l[j + 1]) (hnb : ∀ x ∈ l, 0 ≤ x ∧ x ≤ 100000) (hln : l.length ≤ 20) (hVD : V < D) (n4 : ¬ B4 = V) (n7 : ¬ B7 = V) (n5 : ¬ B5 = V) (n6 : ¬ B6 = V) (nan : l ≠ [] → ∀ b, an = some b → b.block ≠ V) (na : ∀ b, a = some b → b.block ≠ V) (I : List Int → World → Prop) (hI : ∀ pre W W', I pre W → OldB [V] W W' → I pre W') (r : Loop) (w : World) (hit : ItD k a c V B4 B7 B5 B6 an cn l f u (spOf k sp0 []) (hrOf l f []) w) (hI0 : I [] w) (hL : LoopAt w D r) (hy : ∀ pre (j : Nat) W1, j < l.length → pre.length ≤ j → ItD k a c V B4 B7 B5 B6 an cn l f u (spOf k sp0 (pre ++ [(j : Int)])) (hrOf l f (pre ++ [(j : Int)])) W1 → I pre W1 → LoopAt W1 D r → YieldAt Fence.wide 0 Try.prog (D + 1) #[.int .i64 (j : Int)] W1 fun e W' => e = .returned (.bool true) ∧ (ItD k a c V B4 B7 B5 B6 an cn l f u (spOf k sp0 (pre ++ [(j : Int)])) (hrOf l f (pre ++ [(j : Int)])) W' ∧ I (pre ++ [(j : Int)]) W') ∧ LoopAt W' D r) :
    Calls Try.prog 80 #[.func (.yield (D + 1)) #[] #[], .pointer (some ⟨B4, 0, none⟩), .pointer (some ⟨B7, 0, none⟩), .pointer (some ⟨B5, 0, none⟩), .pointer (some ⟨B6, 0, none⟩)] w (ChRes k a c V B4 B7 B5 B6 D an cn l f u sp0 I r) := by
 have HK := hid hK; have Hsp0 := hid hsp0; have Hf := hid hf; have Hnd := hid hnd; have Hnb := hid hnb; have Hnan := hid nan; have Hna := hid na; have Hy := hid hy; clear hK hsp0 hf hnd hnb nan na hy; obtain ⟨hf1, hf2⟩ := Hf.out
 refine enter_F Try.func80 rfl Try.ntmps80 (by simp) ?_
 intro s0 hs; have sl0 : s0 0 = .func (.yield (D + 1)) #[] #[] := hs 0 (by simp); have sl1 : s0 1 = .pointer (some ⟨B4, 0, none⟩) := hs 1 (by simp); have sl2 : s0 2 = .pointer (some ⟨B7, 0, none⟩) := hs 2 (by simp); have sl3 : s0 3 = .pointer (some ⟨B5, 0, none⟩) := hs 3 (by simp); have sl4 : s0 4 = .pointer (some ⟨B6, 0, none⟩) := hs 4 (by simp); clear hs; have HB := hid (OldB.refl [V] w)
 repeat ((fail_if_success refine stp ?_); with_reducible go_step)
 refine region_F ?_; refine pl ?_; refine listF_abs (fun s1 z' => ?_); replace sl0 := gs 0 z' sl0; replace sl1 := gs 1 z' sl1; replace sl2 := gs 2 z' sl2; replace sl3 := gs 3 z' sl3; replace sl4 := gs 4 z' sl4; have sl6 := gu 6 z'; clear z'; refine listF_nil ?_
 repeat ((fail_if_success refine stp ?_); with_reducible go_step)
 have hc0_0 := hid sl0; have hc0_1 := hid sl1; have hc0_2 := hid sl2; have hc0_3 := hid sl3; have hc0_4 := hid sl4; refine loop_F (n := 72) (fun kJ sJ wJ => ∃ (n a1 : Nat) (can : Int) (pre : List Int), kJ = n + 1 ∧ sJ 6 = .int .i64 (a1 : Int) ∧ sJ 0 = s1 0 ∧ sJ 1 = s1 1 ∧ sJ 2 = s1 2 ∧ sJ 3 = s1 3 ∧ sJ 4 = s1 4 ∧ Hid (PlanI k l (failsOf k sp0 f).earliest f u n a1 can pre) ∧ Hid ((failsOf k (spOf k sp0 pre) (hrOf l f pre)).earliest = can) ∧ Hid (spanIn (spOf k sp0 pre)) ∧ (0 ≤ hrOf l f pre ∧ hrOf l f pre ≤ 100000) ∧ ItD k a c V B4 B7 B5 B6 an cn l f u (spOf k sp0 pre) (hrOf l f pre) wJ ∧ I pre wJ ∧ LoopAt wJ D r) ⟨l.length + 1, 0, (failsOf k sp0 f).earliest, [], rfl, (by first | exact sl6 | (rw [sl6]; go_num) | (rw [sl6]; rfl)), rfl, rfl, rfl, rfl, rfl, hid (PlanI.start k l _ f u), hid rfl, Hsp0, ⟨hf1, hf2⟩, hit, hI0, hL⟩ ?_; clear sl6 HB; rintro kJ s2 w3 ⟨n, a1, can, pre, rfl, sl6, e0, e1, e2, e3, e4, hpi, hcn, hsi, hhr, hit, hIp, hL⟩
 replace sl0 := e0.trans sl0; clear e0; replace sl1 := e1.trans sl1; clear e1; replace sl2 := e2.trans sl2; clear e2; replace sl3 := e3.trans sl3; clear e3; replace sl4 := e4.trans sl4; clear e4; have HB := hid (OldB.refl [V] w3)
 (try clear hI0)
 obtain ⟨kV', k4', k7', k5', k6', rn, rs⟩ := hit; have kV := kV'; clear kV'; have qV := kV.1; have kB4 := k4'; clear k4'; have qB4 := kB4.1; have kB7 := k7'; clear k7'; have qB7 := kB7.1; have kB5 := k5'; clear k5'; have qB5 := kB5.1; have kB6 := k6'; clear k6'; have qB6 := kB6.1
 repeat ((fail_if_success refine stp ?_); with_reducible go_step)
 refine region_F ?_; have cB4_0 := kB4.cell 0 rfl; refine pl ?_; refine listF_step rfl (fun K' hK => ?_); unfold opF; go_simp; refine (fails_any V k a c (spOf k sp0 pre) (hrOf l f pre) _ kV rs HK.out hsi.out hhr).mono ?_; rintro e w4 ⟨rfl, hb5⟩; rw [show failAt (hrOf l f pre) (below (spOf k sp0 pre).lo (needed k 1000) k.wear.hi) = can from hcn.out]; refine ⟨_, rfl, hK _ _ ?_⟩; clear hK K'; clear cB4_0; clear qV qB4 qB7 qB5 qB6; replace kV := kV.at hb5; replace kB4 := kB4.at hb5; replace kB7 := kB7.at hb5; replace kB5 := kB5.at hb5; replace kB6 := kB6.at hb5; replace rn := Rd.at rn hb5; replace rs := Rd.at rs hb5; replace hIp := hI _ _ _ hIp (OldB.nil hb5); replace hL := LoopAt.at hL hb5; replace HB := hid (HB.out.below hb5); clear hb5; have qV := kV.1; have qB4 := kB4.1; have qB7 := kB7.1; have qB5 := kB5.1; have qB6 := kB6.1; refine pl ?_; refine pl ?_; refine listF_abs (fun s6 z' => ?_); replace sl0 := gs 0 z' sl0; replace sl1 := gs 1 z' sl1; replace sl2 := gs 2 z' sl2; replace sl3 := gs 3 z' sl3; replace sl4 := gs 4 z' sl4; replace sl6 := gs 6 z' sl6
 have sl7 := gu 7 z'; clear z'; refine listF_nil ?_
 repeat ((fail_if_success refine stp ?_); with_reducible go_step)
 have hj7_0 := hid sl0; have hj7_1 := hid sl1; have hj7_2 := hid sl2; have hj7_3 := hid sl3; have hj7_4 := hid sl4; have hj7_6 := hid sl6; have hj7_7 := hid sl7; refine cut_any (fun sJ wJ => sJ 18 = .bool (decide (can < 0) || decide (u < can)) ∧ sJ 0 = s6 0 ∧ sJ 1 = s6 1 ∧ sJ 2 = s6 2 ∧ sJ 3 = s6 3 ∧ sJ 4 = s6 4 ∧ sJ 6 = s6 6 ∧ sJ 7 = s6 7 ∧ OldB [] w4 wJ) ?_ ?_
 ·skip
  have HL8 := hid (OldB.refl [] w4); refine region_F ?_
  iterate 3 refine pl ?_
  refine listF_abs (fun s9 z' => ?_); replace sl0 := gs 0 z' sl0; replace sl1 := gs 1 z' sl1; replace sl2 := gs 2 z' sl2; replace sl3 := gs 3 z' sl3; replace sl4 := gs 4 z' sl4; replace sl6 := gs 6 z' sl6; replace sl7 := gs 7 z' sl7; have sl14 := gu 14 z'; clear z'
  refine boolG sl14 (fun sl14' h14 => ?_) (fun sl14' h14 => ?_) <;> (clear sl14; have sl14 := sl14'; clear sl14')
  ·skip
   have h14' := h14
   refine pn true ?_; refine pn true ?_; refine pn true ?_; refine pl ?_; refine listF_abs (fun s10 z' => ?_); replace sl0 := gs 0 z' sl0; replace sl1 := gs 1 z' sl1; replace sl2 := gs 2 z' sl2; replace sl3 := gs 3 z' sl3; replace sl4 := gs 4 z' sl4; replace sl6 := gs 6 z' sl6; replace sl7 := gs 7 z' sl7; have sl18 := gu 18 z'; clear z' sl14; refine listF_nil ?_
   repeat ((fail_if_success refine stp ?_); with_reducible go_step)
   exact ⟨rfl, _, rfl, (by have h := h14; simp at h; rw [sl18]; first | (simp [h]; done) | (simp; omega)), (sl0.trans hj7_0.out.symm), (sl1.trans hj7_1.out.symm), (sl2.trans hj7_2.out.symm), (sl3.trans hj7_3.out.symm), (sl4.trans hj7_4.out.symm), (sl6.trans hj7_6.out.symm), (sl7.trans hj7_7.out.symm), HL8.out⟩
  ·skip
   have h14' := h14; refine py ?_; have cB7_0 := kB7.cell 0 rfl; refine py ?_; refine py ?_; refine pl ?_; refine listF_abs (fun s11 z' => ?_); replace sl0 := gs 0 z' sl0; replace sl1 := gs 1 z' sl1; replace sl2 := gs 2 z' sl2; replace sl3 := gs 3 z' sl3; replace sl4 := gs 4 z' sl4; replace sl6 := gs 6 z' sl6; replace sl7 := gs 7 z' sl7; have sl15 := gu 15 z'; have sl16 := gu 16 z'; have sl17 := gu 17 z'; have sl18 := gu 18 z'; clear z' sl14; refine listF_nil ?_
   repeat ((fail_if_success refine stp ?_); with_reducible go_step)
   clear cB7_0; exact ⟨rfl, _, rfl, (by have h := h14; simp at h; rw [sl18]; first | (simp [h]; done) | (simp; omega)), (sl0.trans hj7_0.out.symm), (sl1.trans hj7_1.out.symm), (sl2.trans hj7_2.out.symm), (sl3.trans hj7_3.out.symm), (sl4.trans hj7_4.out.symm), (sl6.trans hj7_6.out.symm), (sl7.trans hj7_7.out.symm), HL8.out⟩
 ·skip
  rintro s12 w13 ⟨sl18, e0, e1, e2, e3, e4, e6, e7, hb14⟩; replace sl0 := e0.trans sl0; clear e0 hj7_0; replace sl1 := e1.trans sl1; clear e1 hj7_1; replace sl2 := e2.trans sl2; clear e2 hj7_2; replace sl3 := e3.trans sl3; clear e3 hj7_3; replace sl4 := e4.trans sl4; clear e4 hj7_4; replace sl6 := e6.trans sl6; clear e6 hj7_6; replace sl7 := e7.trans sl7; clear e7 hj7_7; clear qV qB4 qB7 qB5 qB6; replace kV := kV.oldB hb14 (by first | (simp; done) | (simp; omega)); replace kB4 := kB4.oldB hb14 (by first | (simp; done) | (simp; omega)); replace kB7 := kB7.oldB hb14 (by first | (simp; done) | (simp; omega)); replace kB5 := kB5.oldB hb14 (by first | (simp; done) | (simp; omega)); replace kB6 := kB6.oldB hb14 (by first | (simp; done) | (simp; omega)); replace rn := Rd.oldN rn hb14 (fun hl b hb => by have := Hnan.out hl b hb; first | (simp; done) | (simp; omega) | (simp; exact this)); replace rs := Rd.oldB rs hb14 (fun b hb => by have := Hna.out b hb; first | (simp; done) | (simp; omega) | (simp; exact this))
  replace hIp := hI _ _ _ hIp (OldB.subset hb14 (by simp)); replace hL := LoopAt.oldB hL hb14 (by simp <;> omega); replace HB := hid (HB.out.more hb14 (by simp; try omega)); clear hb14; have qV := kV.1; have qB4 := kB4.1; have qB7 := kB7.1; have qB5 := kB5.1; have qB6 := kB6.1
  repeat ((fail_if_success refine stp ?_); with_reducible go_step)
  refine cond_E sl18 (by decide) ?_ ?_ <;> (clear sl18; intro h18 sl18)
  ·skip
   have Hd := hid (hpi.out.done (by have h := h18; simp at h; exact h))
   repeat ((fail_if_success refine stp ?_); with_reducible go_step)
   refine ret_F _ (res_none Try.results80) ?_; exact .inl ⟨⟨_, rfl⟩, pre, ⟨⟨kV, kB4, kB7, kB5, kB6, rn, rs⟩, hIp⟩, Hd.out, hL⟩
  ·skip
   have Hc := hid (show ¬ (can < 0 ∨ u < can) by have h := h18; simp at h; omega); have hal := hpi.out.2.2.1
   repeat ((fail_if_success refine stp ?_); with_reducible go_step)
   refine region_F ?_; refine pl ?_; refine listF_abs (fun s15 z' => ?_); replace sl0 := gs 0 z' sl0; replace sl1 := gs 1 z' sl1; replace sl2 := gs 2 z' sl2; replace sl3 := gs 3 z' sl3; replace sl4 := gs 4 z' sl4; replace sl6 := gs 6 z' sl6; replace sl7 := gs 7 z' sl7; have sl8 := gu 8 z'; clear z' sl18; refine listF_nil ?_
   repeat ((fail_if_success refine stp ?_); with_reducible go_step)
   have hc1_0 := hid sl0; have hc1_1 := hid sl1; have hc1_2 := hid sl2; have hc1_3 := hid sl3; have hc1_4 := hid sl4; have hc1_7 := hid sl7; refine loop_F (n := 72) (fun kJ sJ wJ => ∃ (i : Nat), kJ = l.length - i ∧ sJ 6 = .int .i64 (i : Int) ∧ sJ 8 = .int .i64 (lastIn l f can a1 i) ∧ sJ 0 = s15 0 ∧ sJ 1 = s15 1 ∧ sJ 2 = s15 2 ∧ sJ 3 = s15 3 ∧ sJ 4 = s15 4 ∧ sJ 7 = s15 7 ∧ OldB [] w13 wJ ∧ a1 ≤ i ∧ i ≤ l.length ∧ (Hid (∀ t (h : t < l.length), a1 ≤ t → t < i → l[t] ≤ can))) ⟨a1, rfl, (by first | exact sl6 | (rw [sl6]; go_num) | (rw [sl6]; rfl)), (by rw [sl8, lastIn_start _ _ _ _ _ (Nat.le_refl _)]), rfl, rfl, rfl, rfl, rfl, rfl, OldB.refl _ _, Nat.le_refl _, hal, hid (fun t h h1 h2 => by omega)⟩ ?_; clear sl6 sl8; rintro kJ s16 w17 ⟨i, rfl, sl6, sl8, e0, e1, e2, e3, e4, e7, hb18, hai, hil, hall⟩; replace sl0 := e0.trans sl0; clear e0; replace sl1 := e1.trans sl1; clear e1; replace sl2 := e2.trans sl2; clear e2; replace sl3 := e3.trans sl3; clear e3
   replace sl4 := e4.trans sl4; clear e4; replace sl7 := e7.trans sl7; clear e7; have hoJ := hb18; clear qV qB4 qB7 qB5 qB6; replace kV := kV.oldB hb18 (by first | (simp; done) | (simp; omega)); replace kB4 := kB4.oldB hb18 (by first | (simp; done) | (simp; omega)); replace kB7 := kB7.oldB hb18 (by first | (simp; done) | (simp; omega)); replace kB5 := kB5.oldB hb18 (by first | (simp; done) | (simp; omega)); replace kB6 := kB6.oldB hb18 (by first | (simp; done) | (simp; omega)); replace rn := Rd.oldN rn hb18 (fun hl b hb => by have := Hnan.out hl b hb; first | (simp; done) | (simp; omega) | (simp; exact this)); replace rs := Rd.oldB rs hb18 (fun b hb => by have := Hna.out b hb; first | (simp; done) | (simp; omega) | (simp; exact this)); replace hIp := hI _ _ _ hIp (OldB.subset hb18 (by simp)); replace hL := LoopAt.oldB hL hb18 (by simp <;> omega); replace HB := hid (HB.out.more hb18 (by simp; try omega)); clear hb18; have qV := kV.1
   have qB4 := kB4.1; have qB7 := kB7.1; have qB5 := kB5.1; have qB6 := kB6.1; have HoJ := hid hoJ; clear hoJ; have HL19 := HoJ; clear HoJ
   repeat ((fail_if_success refine stp ?_); with_reducible go_step)
   have hj20_0 := hid sl0; have hj20_1 := hid sl1; have hj20_2 := hid sl2; have hj20_3 := hid sl3; have hj20_4 := hid sl4; have hj20_6 := hid sl6; have hj20_7 := hid sl7; have hj20_8 := hid sl8; refine cut_any (fun sJ wJ => sJ 30 = .bool (decide (i < l.length) && decide (l.getD i 0 ≤ can)) ∧ sJ 0 = s16 0 ∧ sJ 1 = s16 1 ∧ sJ 2 = s16 2 ∧ sJ 3 = s16 3 ∧ sJ 4 = s16 4 ∧ sJ 6 = s16 6 ∧ sJ 7 = s16 7 ∧ sJ 8 = s16 8 ∧ OldB [] w17 wJ) ?_ ?_
   ·skip
    have HL21 := hid (OldB.refl [] w17); refine region_F ?_; refine pl ?_; have cB5_0 := kB5.cell 0 rfl
    iterate 4 refine pl ?_
    refine listF_abs (fun s22 z' => ?_); replace sl0 := gs 0 z' sl0; replace sl1 := gs 1 z' sl1; replace sl2 := gs 2 z' sl2; replace sl3 := gs 3 z' sl3; replace sl4 := gs 4 z' sl4; replace sl6 := gs 6 z' sl6; replace sl7 := gs 7 z' sl7; replace sl8 := gs 8 z' sl8; have sl23 := gu 23 z'; clear z'
    refine boolG sl23 (fun sl23' h23 => ?_) (fun sl23' h23 => ?_) <;> (clear sl23; have sl23 := sl23'; clear sl23')
    ·skip
     have hlt : i < l.length := by simpa using h23
     have hlt' : (i : Int) < l.length := by omega
     obtain ⟨bn, on, rfl, hbn, c0⟩ := RdInts.ne rn hlt
     iterate 6 refine py ?_
     refine pl ?_; refine listF_abs (fun s23 z' => ?_); replace sl0 := gs 0 z' sl0; replace sl1 := gs 1 z' sl1; replace sl2 := gs 2 z' sl2; replace sl3 := gs 3 z' sl3; replace sl4 := gs 4 z' sl4; replace sl6 := gs 6 z' sl6; replace sl7 := gs 7 z' sl7; replace sl8 := gs 8 z' sl8; have sl24 := gu 24 z'; have sl25 := gu 25 z'; have sl26 := gu 26 z'; have sl27 := gu 27 z'; have sl28 := gu 28 z'; have sl29 := gu 29 z'; have sl30 := gu 30 z'; clear z' sl23; refine listF_nil ?_
     repeat ((fail_if_success refine stp ?_); with_reducible go_step)
     clear cB5_0; exact ⟨rfl, _, rfl, (by have h := h23; simp at h; rw [sl30, getD_get h]; simp [h]), (sl0.trans hj20_0.out.symm), (sl1.trans hj20_1.out.symm), (sl2.trans hj20_2.out.symm), (sl3.trans hj20_3.out.symm), (sl4.trans hj20_4.out.symm), (sl6.trans hj20_6.out.symm), (sl7.trans hj20_7.out.symm), (sl8.trans hj20_8.out.symm), HL21.out⟩
    ·skip
     refine pn false ?_
     refine pn false ?_
     refine pn false ?_
     refine pn false ?_; refine pn false ?_; refine pn false ?_; refine pl ?_; refine listF_abs (fun s24 z' => ?_); replace sl0 := gs 0 z' sl0; replace sl1 := gs 1 z' sl1; replace sl2 := gs 2 z' sl2; replace sl3 := gs 3 z' sl3; replace sl4 := gs 4 z' sl4; replace sl6 := gs 6 z' sl6; replace sl7 := gs 7 z' sl7; replace sl8 := gs 8 z' sl8; have sl30 := gu 30 z'; clear z' sl23; refine listF_nil ?_
     repeat ((fail_if_success refine stp ?_); with_reducible go_step)
     clear cB5_0; exact ⟨rfl, _, rfl, (by have h := h23; simp at h; rw [sl30, decide_eq_false (show ¬ i < l.length by omega)]; rfl), (sl0.trans hj20_0.out.symm), (sl1.trans hj20_1.out.symm), (sl2.trans hj20_2.out.symm), (sl3.trans hj20_3.out.symm), (sl4.trans hj20_4.out.symm), (sl6.trans hj20_6.out.symm), (sl7.trans hj20_7.out.symm), (sl8.trans hj20_8.out.symm), HL21.out⟩
   ·skip
    rintro s25 w26 ⟨sl30, e0, e1, e2, e3, e4, e6, e7, e8, hb27⟩; replace sl0 := e0.trans sl0; clear e0 hj20_0; replace sl1 := e1.trans sl1; clear e1 hj20_1; replace sl2 := e2.trans sl2; clear e2 hj20_2; replace sl3 := e3.trans sl3; clear e3 hj20_3; replace sl4 := e4.trans sl4; clear e4 hj20_4; replace sl6 := e6.trans sl6; clear e6 hj20_6; replace sl7 := e7.trans sl7; clear e7 hj20_7; replace sl8 := e8.trans sl8; clear e8 hj20_8; clear qV qB4 qB7 qB5 qB6; replace kV := kV.oldB hb27 (by first | (simp; done) | (simp; omega)); replace kB4 := kB4.oldB hb27 (by first | (simp; done) | (simp; omega)); replace kB7 := kB7.oldB hb27 (by first | (simp; done) | (simp; omega)); replace kB5 := kB5.oldB hb27 (by first | (simp; done) | (simp; omega)); replace kB6 := kB6.oldB hb27 (by first | (simp; done) | (simp; omega)); replace rn := Rd.oldN rn hb27 (fun hl b hb => by have := Hnan.out hl b hb; first | (simp; done) | (simp; omega) | (simp; exact this))
    replace rs := Rd.oldB rs hb27 (fun b hb => by have := Hna.out b hb; first | (simp; done) | (simp; omega) | (simp; exact this)); replace hIp := hI _ _ _ hIp (OldB.subset hb27 (by simp)); replace hL := LoopAt.oldB hL hb27 (by simp <;> omega); replace HL19 := hid (HL19.out.more hb27 (by simp; try omega)); replace HB := hid (HB.out.more hb27 (by simp; try omega)); clear hb27; have qV := kV.1; have qB4 := kB4.1; have qB7 := kB7.1; have qB5 := kB5.1; have qB6 := kB6.1
    repeat ((fail_if_success refine stp ?_); with_reducible go_step)
    refine cond_E sl30 (by decide) ?_ ?_ <;> (clear sl30; intro h30 sl30)
    ·skip
     obtain ⟨hlt, hle⟩ : i < l.length ∧ l.getD i 0 ≤ can := by have h := h30; simp only [Bool.and_eq_true, decide_eq_true_eq] at h; exact h
     rw [getD_get hlt] at hle
     have hlt' : (i : Int) < l.length := by omega
     obtain ⟨bn, on, rfl, hbn, c0⟩ := RdInts.ne rn hlt; have Hls := hid (lastIn_succ (f := f) (c := can) hai hlt); have wii : IntKind.i64.wrap ((i : Int) + 1) = (i : Int) + 1 := IntWalk.i64_in _ (by omega)
     repeat ((fail_if_success refine stp ?_); with_reducible go_step)
     have cV_0 := kV.cell 0 rfl; have cV_1 := kV.cell 1 rfl; have cV_2 := kV.cell 2 rfl; have cV_3 := kV.cell 3 rfl; have cV_4 := kV.cell 4 rfl; have cV_5 := kV.cell 5 rfl; have cV_6 := kV.cell 6 rfl; have cB4_0 := kB4.cell 0 rfl; have cB7_0 := kB7.cell 0 rfl; have cB5_0 := kB5.cell 0 rfl; have cB6_0 := kB6.cell 0 rfl; refine regionQ_F (Below w26.heap.size w26) (by kernel_rfl) (by kernel_rfl) (Below.refl _ _).drew ?_
     iterate 6 refine lq ?_
     refine listQ_nil ?_; intro w28 hb29; clear cB4_0 cB5_0 cB6_0 cB7_0 cV_0 cV_1 cV_2 cV_3 cV_4 cV_5 cV_6; clear qV qB4 qB7 qB5 qB6; replace kV := kV.at hb29; replace kB4 := kB4.at hb29; replace kB7 := kB7.at hb29; replace kB5 := kB5.at hb29; replace kB6 := kB6.at hb29; replace rn := Rd.at rn hb29; replace rs := Rd.at rs hb29; replace hIp := hI _ _ _ hIp (OldB.nil hb29); replace hL := LoopAt.at hL hb29; replace HL19 := hid (HL19.out.below hb29); replace HB := hid (HB.out.below hb29); clear hb29; have qV := kV.1; have qB4 := kB4.1; have qB7 := kB7.1; have qB5 := kB5.1; have qB6 := kB6.1
     repeat ((fail_if_success refine stp ?_); with_reducible go_step)
     refine wp_abs (fun s30 z' => ?_); replace sl0 := gs 0 z' sl0; replace sl1 := gs 1 z' sl1; replace sl2 := gs 2 z' sl2; replace sl3 := gs 3 z' sl3; replace sl4 := gs 4 z' sl4; replace sl6 := gs 6 z' sl6; replace sl7 := gs 7 z' sl7; replace sl8 := gs 8 z' sl8; have sl38 := gu 38 z'; clear z' sl30
     refine cond_E sl38 (by decide) ?_ ?_ <;> (clear sl38; intro h38 sl38)
     ·skip
      have Hl1 := hid (show lastIn l f can a1 (i + 1) = (i : Int) by rw [Hls.out, if_pos ((inb_iff _ _ _).2 ⟨by simpa using h38, hle⟩)])
      repeat ((fail_if_success refine stp ?_); with_reducible go_step)
      refine region_F ?_; refine pl ?_; refine pl ?_; refine listF_abs (fun s31 z' => ?_); replace sl0 := gs 0 z' sl0; replace sl1 := gs 1 z' sl1; replace sl2 := gs 2 z' sl2; replace sl3 := gs 3 z' sl3; replace sl4 := gs 4 z' sl4; replace sl6 := gs 6 z' sl6; replace sl7 := gs 7 z' sl7; replace sl8 := gu 8 z'; clear z' sl38; refine listF_nil ?_
      repeat ((fail_if_success refine stp ?_); with_reducible go_step)
      refine region_F ?_
      iterate 3 refine pl ?_
      refine listF_abs (fun s32 z' => ?_); replace sl0 := gs 0 z' sl0; replace sl1 := gs 1 z' sl1; replace sl2 := gs 2 z' sl2; replace sl3 := gs 3 z' sl3; replace sl4 := gs 4 z' sl4; replace sl6 := gu 6 z'; replace sl7 := gs 7 z' sl7; replace sl8 := gs 8 z' sl8; clear z'; refine listF_nil ?_
      repeat ((fail_if_success refine stp ?_); with_reducible go_step)
      refine ⟨_, _, rfl, ?_, i + 1, rfl, (by first | (with_reducible exact sl6) | (rw [sl6]; (with_reducible go_num); done) | (rw [sl6, IntWalk.i64_in] <;> first | ((with_reducible go_num); done) | omega) | (rw [sl6]; go_num; done) | (rw [sl6]; simp; done) | (rw [sl6]; simp; omega)), (by rw [sl8, Hl1.out]), (sl0.trans hc1_0.out.symm), (sl1.trans hc1_1.out.symm), (sl2.trans hc1_2.out.symm), (sl3.trans hc1_3.out.symm), (sl4.trans hc1_4.out.symm), (sl7.trans hc1_7.out.symm), HL19.out, by omega, by omega, hid (fun t h h1 h2 => by rcases Nat.lt_or_ge t i with h3 | h3 <;> first | exact hall.out t h h1 h3 | (have e : t = i := (by omega); subst e; exact hle))⟩
      omega
     ·skip
      have Hl1 := hid (show lastIn l f can a1 (i + 1) = lastIn l f can a1 i by rw [Hls.out, if_neg (fun h => by have := ((inb_iff _ _ _).1 h).1; simp at h38; omega)])
      repeat ((fail_if_success refine stp ?_); with_reducible go_step)
      refine region_F ?_
      iterate 3 refine pl ?_
      refine listF_abs (fun s33 z' => ?_); replace sl0 := gs 0 z' sl0; replace sl1 := gs 1 z' sl1; replace sl2 := gs 2 z' sl2; replace sl3 := gs 3 z' sl3; replace sl4 := gs 4 z' sl4; replace sl6 := gu 6 z'; replace sl7 := gs 7 z' sl7; replace sl8 := gs 8 z' sl8; clear z' sl38; refine listF_nil ?_
      repeat ((fail_if_success refine stp ?_); with_reducible go_step)
      refine ⟨_, _, rfl, ?_, i + 1, rfl, (by first | (with_reducible exact sl6) | (rw [sl6]; (with_reducible go_num); done) | (rw [sl6, IntWalk.i64_in] <;> first | ((with_reducible go_num); done) | omega) | (rw [sl6]; go_num; done) | (rw [sl6]; simp; done) | (rw [sl6]; simp; omega)), (by rw [sl8, Hl1.out]), (sl0.trans hc1_0.out.symm), (sl1.trans hc1_1.out.symm), (sl2.trans hc1_2.out.symm), (sl3.trans hc1_3.out.symm), (sl4.trans hc1_4.out.symm), (sl7.trans hc1_7.out.symm), HL19.out, by omega, by omega, hid (fun t h h1 h2 => by rcases Nat.lt_or_ge t i with h3 | h3 <;> first | exact hall.out t h h1 h3 | (have e : t = i := (by omega); subst e; exact hle))⟩
      omega
    ·skip
     have Hst := hid (show lastIn l f can a1 l.length = lastIn l f can a1 i by have h := lastIn_stop (f := f) (c := can) (a := a1) Hnd.out hil (fun h8 h9 => by have h7 := h30; simp only [Bool.and_eq_false_imp, decide_eq_true_eq, decide_eq_false_iff_not] at h7; exact h7 h8 (by rw [getD_get h8]; exact h9)) (l.length - i) (by omega); rwa [show i + (l.length - i) = l.length by omega] at h); rw [← Hst.out] at sl8
     repeat ((fail_if_success refine stp ?_); with_reducible go_step)
     clear HL19; clear hc1_0 hc1_1 hc1_2 hc1_3 hc1_4 hc1_7; refine region_F ?_; refine pl ?_; refine pl ?_; refine listF_abs (fun s34 z' => ?_); replace sl0 := gs 0 z' sl0; replace sl1 := gs 1 z' sl1; replace sl2 := gs 2 z' sl2; replace sl3 := gs 3 z' sl3; replace sl4 := gs 4 z' sl4; replace sl6 := gs 6 z' sl6; replace sl8 := gs 8 z' sl8; have sl41 := gu 41 z'; clear z' sl7 sl30; refine listF_nil ?_
     repeat ((fail_if_success refine stp ?_); with_reducible go_step)
     refine cond_E sl41 (by decide) ?_ ?_ <;> (clear sl41; intro h41 sl41)
     ·skip
      have Hd := hid (hpi.out.down Hc.out (by simpa using h41))
      repeat ((fail_if_success refine stp ?_); with_reducible go_step)
      refine region_yield (k := 1) (by kernel_rfl) ?_
      simp only [List.take_succ_cons, List.take_zero, List.drop_succ_cons, List.drop_zero]
      refine pl ?_; refine listF_abs (fun s35 z' => ?_); replace sl0 := gs 0 z' sl0; replace sl1 := gs 1 z' sl1; replace sl2 := gs 2 z' sl2; replace sl3 := gs 3 z' sl3; replace sl4 := gs 4 z' sl4; replace sl6 := gs 6 z' sl6; replace sl8 := gs 8 z' sl8; have sl42 := gu 42 z'; clear z' sl41; refine listF_nil ?_; refine panic_in (v := .iface 27 (.int .i64 9)) (w' := w26) (by go_simp) ?_; refine (⟨rfl, ?_⟩ : bodyPost _ _ _ (.panic _) (mkA _ _ []) _); exact .inr ⟨_, rfl, ⟨rfl, Hd.out, pre, hIp⟩, hL⟩
     ·skip
      obtain ⟨n1, j, rfl, hlj, hj, hpn⟩ := hpi.out.next Hc.out (by simpa using h41); have Hpn := hid hpn; have hij : i = j + 1 := lastIn_end Hnd.out hil hall.out (by rw [← Hst.out]; exact hlj); subst hij; clear Hst; rw [hlj] at sl8
      have hpj : pre.length ≤ j := by have h1 := (lastIn_val hlj).1; have h2 := hpi.out.2.2.2.1; omega
      clear hlj hpn
      have hj' : (j : Int) < l.length := by omega
      have Hgj := hid (show l.getD j 0 = l[j] from getD_get hj 0); obtain ⟨bn, on, rfl, hbn, c0⟩ := RdInts.ne rn hj
      have hbV : ¬ bn = V := fun e => Hnan.out (fun e2 => by rw [e2] at hj; simp at hj) _ rfl e
      repeat ((fail_if_success refine stp ?_); with_reducible go_step)
      have cV_0 := kV.cell 0 rfl; have cV_1 := kV.cell 1 rfl; have cV_2 := kV.cell 2 rfl; have cV_3 := kV.cell 3 rfl; have cV_4 := kV.cell 4 rfl; have cV_5 := kV.cell 5 rfl; have cV_6 := kV.cell 6 rfl; have cB4_0 := kB4.cell 0 rfl; have cB7_0 := kB7.cell 0 rfl; have cB5_0 := kB5.cell 0 rfl; have cB6_0 := kB6.cell 0 rfl
      have nB4_V : ¬ B4 = V := by omega
      have nB7_V : ¬ B7 = V := by omega
      have nB5_V : ¬ B5 = V := by omega
      have nB6_V : ¬ B6 = V := by omega
      refine regionR_F [V] [(vC k a c (spOf k sp0 pre) (hrOf l f pre))] [28] [.q [], .q [], .q [], .q [], .q [], .q [], .q [], .q [28], .q [], .q [], .q [], .q [], .q [28], .q [], .q [], .q [], .q [], .q [], .q [], .q [], .st 28, .q [], .q [], .q [], .st 28] [?v15_0, ?v15_1, ?v15_2, ?v15_3, ?v15_4, ?v15_5, ?v15_6, ?v15_7, ?v15_8, ?v15_9, ?v15_10, ?v15_11, ?v15_12, ?v15_13, ?v15_14, ?v15_15, ?v15_16, ?v15_17, ?v15_18, ?v15_19, fun _ => undef, ?v15_21, ?v15_22, ?v15_23, fun _ => undef] [fun _ => [], fun _ => [], fun _ => [], fun _ => [], fun _ => [], fun _ => [], fun _ => [], fun _ => [], fun _ => [], fun _ => [], fun _ => [], fun _ => [], fun _ => [], fun _ => [], fun _ => [], fun _ => [], fun _ => [], fun _ => [], fun _ => [], fun _ => [], ?c15_20, fun _ => [], fun _ => [], fun _ => [], ?c15_24] (by kernel_rfl) (by kernel_rfl) (by kernel_rfl) (by kernel_rfl) (by kernel_rfl) (by first | exact List.nodup_nil | exact List.nodup_singleton _ | (simp; done) | (simp; omega)) (bc_cons (by repeat (first | (with_reducible exact kV) | (with_reducible refine Cells.drew ?_) | (with_reducible refine Cells.up ?_ _) | (with_reducible refine Cells.setFar ?_ (by omega)))) bc_nil) ?walk15 ?dep15
      case walk15 =>
       iterate 7 refine rq ?_
       refine walkR_q (by rfl) (fun X hX wq hwq hrq => ?_) ?_
       · obtain ⟨hcq, hfq⟩ := hwq.b1
         have kq28 := hrq 28 (by simp); rw [show X 28 = V from hX.at0 0 _ rfl] at kq28; replace kq28 : Cells wq V ((vC k a c (spOf k sp0 pre) (hrOf l f pre))) := kq28; have kqs28 := kq28.1; have kq28_0 := kq28.cell 0 rfl; have kq28_1 := kq28.cell 1 rfl; have kq28_2 := kq28.cell 2 rfl; have kq28_3 := kq28.cell 3 rfl; have kq28_4 := kq28.cell 4 rfl; have kq28_5 := kq28.cell 5 rfl; have kq28_6 := kq28.cell 6 rfl; clear hrq; go_simp
         (first | rfl | exact ⟨rfl, rfl⟩ | (refine ⟨?_, ?_⟩ <;> rfl))
       iterate 4 refine rq ?_
       refine walkR_q (by rfl) (fun X hX wq hwq hrq => ?_) ?_
       · obtain ⟨hcq, hfq⟩ := hwq.b1
         have kq28 := hrq 28 (by simp); rw [show X 28 = V from hX.at0 0 _ rfl] at kq28; replace kq28 : Cells wq V ((vC k a c (spOf k sp0 pre) (hrOf l f pre))) := kq28; have kqs28 := kq28.1; have kq28_0 := kq28.cell 0 rfl; have kq28_1 := kq28.cell 1 rfl; have kq28_2 := kq28.cell 2 rfl; have kq28_3 := kq28.cell 3 rfl; have kq28_4 := kq28.cell 4 rfl; have kq28_5 := kq28.cell 5 rfl; have kq28_6 := kq28.cell 6 rfl; clear hrq; go_simp
         (first | rfl | exact ⟨rfl, rfl⟩ | (refine ⟨?_, ?_⟩ <;> rfl))
       iterate 7 refine rq ?_
       refine walkR_st (by rfl) (fun X hX wq hwq hkq => ?_) ?_
       · rw [show X 28 = V from hX.at0 0 _ rfl] at hkq ⊢
         replace hkq : Cells wq V ((vC k a c (spOf k sp0 pre) (hrOf l f pre))) := hkq; have hks := hkq.1; have hkz := hkq.2.2; have hk0 := hkq.cell 0 rfl; have hk1 := hkq.cell 1 rfl; have hk2 := hkq.cell 2 rfl; have hk3 := hkq.cell 3 rfl; have hk4 := hkq.cell 4 rfl; have hk5 := hkq.cell 5 rfl; have hk6 := hkq.cell 6 rfl; go_simp
         (first | ((with_reducible refine writeB_mk (Cells.set hkq) ?_ ?_); (focus (repeat (first | (with_reducible exact Only.refl _ _) | (with_reducible refine Only.set ?_)))); rfl))
       iterate 3 refine rq ?_
       refine walkR_st (by rfl) (fun X hX wq hwq hkq => ?_) ?_
       · rw [show X 28 = V from hX.at0 0 _ rfl] at hkq ⊢
         simp only [updC_some, updC_none, Nat.reduceEqDiff, ↓reduceIte] at hkq
         have hks := hkq.1; have hkz := hkq.2.2; have hk0 := hkq.cell 0 rfl; have hk1 := hkq.cell 1 rfl; have hk2 := hkq.cell 2 rfl; have hk3 := hkq.cell 3 rfl; have hk4 := hkq.cell 4 rfl; have hk5 := hkq.cell 5 rfl; have hk6 := hkq.cell 6 rfl; go_simp
         (first | ((with_reducible refine writeB_mk (Cells.set hkq) ?_ ?_); (focus (repeat (first | (with_reducible exact Only.refl _ _) | (with_reducible refine Only.set ?_)))); rfl))
       refine walkR_nil (fun X hX w38 hwz hcz => ?_); have kz0 := hcz 28 (by simp); rw [show X 28 = V from hX.at0 0 _ rfl] at kz0
       simp only [updC_some, updC_none, Nat.reduceEqDiff, ↓reduceIte] at kz0
       clear hX hcz
       (try clear X)
       clear nB4_V nB7_V nB5_V nB6_V; have hb39 := hwz.unDrew; clear hwz
       (try simp only [vC, List.set_cons_zero, List.set_cons_succ] at kz0)
       clear cB4_0 cB5_0 cB6_0 cB7_0 cV_0 cV_1 cV_2 cV_3 cV_4 cV_5 cV_6; clear qV qB4 qB7 qB5 qB6; replace kV := kz0; replace kB4 := kB4.oldB hb39 (by first | (simp; done) | (simp; omega)); replace kB7 := kB7.oldB hb39 (by first | (simp; done) | (simp; omega)); replace kB5 := kB5.oldB hb39 (by first | (simp; done) | (simp; omega)); replace kB6 := kB6.oldB hb39 (by first | (simp; done) | (simp; omega)); replace rn := Rd.oldN rn hb39 (fun hl b hb => by have := Hnan.out hl b hb; first | (simp; done) | (simp; omega) | (simp; exact this)); replace rs := Rd.oldB rs hb39 (fun b hb => by have := Hna.out b hb; first | (simp; done) | (simp; omega) | (simp; exact this)); replace hIp := hI _ _ _ hIp (OldB.subset hb39 (by simp)); replace hL := LoopAt.oldB hL hb39 (by simp <;> omega); replace HB := hid (HB.out.more hb39 (by simp; try omega)); clear hb39; have qV := kV.1; have qB4 := kB4.1; have qB7 := kB7.1; have qB5 := kB5.1; have qB6 := kB6.1
       clear kz0; refine pl ?_; refine pl ?_; have cV_0 := kV.cell 0 rfl; have cV_1 := kV.cell 1 rfl; have cV_2 := kV.cell 2 rfl; have cV_3 := kV.cell 3 rfl; have cV_4 := kV.cell 4 rfl; have cV_5 := kV.cell 5 rfl; have cV_6 := kV.cell 6 rfl; have zV := kV.2.2; refine pl ?_; refine listF_absw (fun w40 hw' => ?_); have kV' := cells_of hw' (Cells.set (i := 6) (kV))
       (try simp only [vC, List.set_cons_zero, List.set_cons_succ] at kV')
       have hb41 : OldB [V] w38 w40 := oldset hw'; clear hw'; clear cV_0 cV_1 cV_2 cV_3 cV_4 cV_5 cV_6 zV; clear qV qB4 qB7 qB5 qB6; replace kV := kV'; replace kB4 := kB4.oldB hb41 (by first | (simp; done) | (simp; omega)); replace kB7 := kB7.oldB hb41 (by first | (simp; done) | (simp; omega)); replace kB5 := kB5.oldB hb41 (by first | (simp; done) | (simp; omega)); replace kB6 := kB6.oldB hb41 (by first | (simp; done) | (simp; omega)); replace rn := Rd.oldN rn hb41 (fun hl b hb => by have := Hnan.out hl b hb; first | (simp; done) | (simp; omega) | (simp; exact this)); replace rs := Rd.oldB rs hb41 (fun b hb => by have := Hna.out b hb; first | (simp; done) | (simp; omega) | (simp; exact this)); replace hIp := hI _ _ _ hIp (OldB.subset hb41 (by simp)); replace hL := LoopAt.oldB hL hb41 (by simp <;> omega); replace HB := hid (HB.out.more hb41 (by simp; try omega)); clear hb41; have qV := kV.1; have qB4 := kB4.1; have qB7 := kB7.1; have qB5 := kB5.1
       have qB6 := kB6.1; clear kV'; refine listF_abs (fun s42 z' => ?_); replace sl0 := gs 0 z' sl0; replace sl1 := gs 1 z' sl1; replace sl2 := gs 2 z' sl2; replace sl3 := gs 3 z' sl3; replace sl4 := gs 4 z' sl4; replace sl6 := gs 6 z' sl6; replace sl8 := gs 8 z' sl8; clear z' sl41; refine listF_nil ?_
       repeat ((fail_if_success refine stp ?_); with_reducible go_step)
       refine region_yield (k := 2) (by kernel_rfl) ?_
       simp only [List.take_succ_cons, List.take_zero, List.drop_succ_cons, List.drop_zero]
       refine pl ?_; refine pl ?_; refine listF_abs (fun s43 z' => ?_); replace sl0 := gs 0 z' sl0; replace sl1 := gs 1 z' sl1; replace sl2 := gs 2 z' sl2; replace sl3 := gs 3 z' sl3; replace sl4 := gs 4 z' sl4; replace sl6 := gs 6 z' sl6; have sl68 := gu 68 z'; have sl69 := gu 69 z'; clear z' sl8; refine listF_nil ?_; clear qV qB4 qB7 qB5 qB6; have Hz := Hy.out pre j w40 hj hpj (by rw [spOf_snoc, hrOf_snoc, Hgj.out]; exact ⟨kV, kB4, kB7, kB5, kB6, rn, rs⟩) hIp hL; refine yield_in (l := D + 1) (d := 70) (v := .int .i64 (j : Int)) rfl (fun c h => by cases h) rfl ?_ Hz ?_
       · go_simp
       rintro e w44 ⟨rfl, ⟨hit, hIp2⟩, hL2⟩; refine ⟨_, rfl, listF_in _ _ _ (by kernel_rfl) ?_⟩; clear Hz; clear kV kB4 kB7 kB5 kB6 rn rs hIp hL HB; have HB := hid (OldB.refl [V] w44); have hIp := hIp2; clear hIp2; have hL := hL2; clear hL2; obtain ⟨kV', k4', k7', k5', k6', rn, rs⟩ := hit; have kV := kV'; clear kV'; have qV := kV.1; have kB4 := k4'; clear k4'; have qB4 := kB4.1; have kB7 := k7'; clear k7'; have qB7 := kB7.1; have kB5 := k5'; clear k5'; have qB5 := kB5.1; have kB6 := k6'; clear k6'; have qB6 := kB6.1; refine pl ?_; refine listF_abs (fun s46 z' => ?_); replace sl0 := gs 0 z' sl0; replace sl1 := gs 1 z' sl1; replace sl2 := gs 2 z' sl2; replace sl3 := gs 3 z' sl3; replace sl4 := gs 4 z' sl4; replace sl6 := gs 6 z' sl6; have sl71 := gu 71 z'; clear z' sl68 sl69; refine listF_nil ?_
       repeat ((fail_if_success refine stp ?_); with_reducible go_step)
       refine cond_E sl71 (by decide) ?_ ?_ <;> (clear sl71; intro h71 sl71)
       ·skip
        cases h71
       ·skip
        repeat ((fail_if_success refine stp ?_); with_reducible go_step)
        refine ⟨_, _, rfl, ?_, n1, j + 1, (canAt k (l.getD j 0)), (pre ++ [(j : Int)]), rfl, (by first | (with_reducible exact sl6) | (rw [sl6]; (with_reducible go_num); done) | (rw [sl6, IntWalk.i64_in] <;> first | ((with_reducible go_num); done) | omega) | (rw [sl6]; go_num; done) | (rw [sl6]; simp; done) | (rw [sl6]; simp; omega)), (sl0.trans hc0_0.out.symm), (sl1.trans hc0_1.out.symm), (sl2.trans hc0_2.out.symm), (sl3.trans hc0_3.out.symm), (sl4.trans hc0_4.out.symm), Hpn, hid (by rw [spOf_snoc, hrOf_snoc]; rfl), hid (by rw [spOf_snoc]; exact new_in HK.out), (by rw [hrOf_snoc, Hgj.out]; exact Hnb.out _ (List.getElem_mem hj)), ⟨kV, kB4, kB7, kB5, kB6, rn, rs⟩, hIp, hL⟩
        omega
      case dep15 =>
        iterate 25 refine dR ?_
        exact depR_nil
end


end Go.Proofs.Ytndcmmghgljinaa
