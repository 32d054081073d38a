/- append to what the call owns; a range over a function; further lemmas on memory. -/
import Derived.Test.YtigehmghcafblaaGreatlzG1
import Derived.Deep.RegionHeld3
import Derived.Deep.RegionLaw
import Derived.Laws.OwnMore
import Derived.RangeFuncNested
import Derived.RangeFuncCalls
import Derived.RangeFuncLeaves
import Derived.Maps.Own
import Derived.IntWalk
import Derived.OpenShut
set_option linter.all false
namespace Go.Proofs.YtigehmghcafblaaGreat

section
set_option linter.all false
open Go.RowKit

section
/-- where the blocks lie: at i the block that operation i makes; at ops.size + k the k-th old block that is written -/
abbrev Ad := Nat → Nat
/-- what an operation does: q: reads, or a call that leaves old memory alone; it reads the written blocks rd. a: makes a block. st: writes the block r. no: is passed over -/
inductive OK where
  | q (rd : List Nat)
  | a
  | st (r : Nat)
  | no
def OK.wr : OK → Nat → Option Nat
  | .a, i => some i
  | .st r, _ => some r
  | _, _ => none
def OK.uses : OK → List Nat
  | .q rd => rd
  | .st r => [r]
  | _ => []
def OK.isA : OK → Bool
  | .a => true
  | _ => false
@[simp] theorem OK.wr_q (rd : List Nat) (i : Nat) : (OK.q rd).wr i = none := rfl
@[simp] theorem OK.wr_a (i : Nat) : OK.a.wr i = some i := rfl
@[simp] theorem OK.wr_st (r i : Nat) : (OK.st r).wr i = some r := rfl
@[simp] theorem OK.wr_no (i : Nat) : OK.no.wr i = none := rfl

structure OldB (Bs : List Nat) (w0 w : World) : Prop where
  os : w.os = w0.os
  tape : w.tape = w0.tape
  output : w.output = w0.output
  size : w0.heap.size ≤ w.heap.size
  block : ∀ k, k < w0.heap.size → k ∉ Bs → w.heap[k]? = w0.heap[k]?
structure Only (b : Nat) (w w' : World) : Prop where
  os : w'.os = w.os
  tape : w'.tape = w.tape
  output : w'.output = w.output
  size : w'.heap.size = w.heap.size
  block : ∀ k, k ≠ b → w'.heap[k]? = w.heap[k]?
theorem cellBk {w w' : World} {b o : Nat} (h : w'.heap[b]? = w.heap[b]?) : w'.cell? ⟨b, o, none⟩ = w.cell? ⟨b, o, none⟩ := by
  simp only [World.cell?, h]
theorem frozBk {w w' : World} {b o : Nat} (h : w'.heap[b]? = w.heap[b]?) : w'.frozen? ⟨b, o, none⟩ = w.frozen? ⟨b, o, none⟩ := by
  simp only [World.frozen?, h]
theorem Cells.same {w w' : World} {b : Nat} {l : List Value} (h : Cells w b l) (hb : w'.heap[b]? = w.heap[b]?) (hs : w.heap.size ≤ w'.heap.size) : Cells w' b l :=
  ⟨Nat.lt_of_lt_of_le h.1 hs, fun i v hv => (cellBk hb).trans (h.2.1 i v hv), fun o => (frozBk hb).trans (h.2.2 o)⟩

def quietB (P : Program) (w : World) (v : Value) : Result Next → Prop
  | .ok (.value u) w' => w' = w ∧ u = v
  | .ok .skip w' => w' = w ∧ v = undef
  | .ok (.enter f args) w' => w' = w ∧ Calls P f args w fun e w'' => e = .returned v ∧ Below w.heap.size w w''
  | _ => False
@[simp] theorem quietB_value {P : Program} {w w' : World} {u v : Value} : quietB P w v (.ok (.value u) w') = (w' = w ∧ u = v) := rfl
@[simp] theorem quietB_enter {P : Program} {w w' : World} {f : FuncId} {args : Array Value} {v : Value} : quietB P w v (.ok (.enter f args) w') = (w' = w ∧ Calls P f args w (fun e w'' => e = .returned v ∧ Below w.heap.size w w'')) := rfl
def newB (w : World) (v : Value) (c : List Value) : Result Next → Prop
  | .ok (.value u) w' => ∃ cs T, w' = w.alloc (.cells cs T) ∧ cs.toList = c ∧ u = v
  | _ => False
theorem newB_value {w w' : World} {u v : Value} {c : List Value} : newB w v c (.ok (.value u) w') = ∃ cs T, w' = w.alloc (.cells cs T) ∧ cs.toList = c ∧ u = v := rfl
def writeB (b : Nat) (w : World) (c : List Value) : Result Next → Prop
  | .ok .skip w' => Only b w w' ∧ Cells w' b c
  | _ => False
theorem writeB_skip {b : Nat} {w w' : World} {c : List Value} : writeB b w c (.ok .skip w') = (Only b w w' ∧ Cells w' b c) := rfl

def isAat (ks : List OK) (i : Nat) : Bool := ((ks[i]?).map OK.isA).getD false
structure Good (kk : List OK) (m : Nat) (w0 : World) (Bs : List Nat) (X : Ad) : Prop where
  lo : ∀ i, isAat kk i = true → w0.heap.size ≤ X i
  ne : ∀ i j, isAat kk i = true → isAat kk j = true → i ≠ j → X i ≠ X j
  at0 : ∀ k b, Bs[k]? = some b → X (m + k) = b

def stepR (P : Program) (ops : Array Oper) (n : Nat) (w0 : World) (Bs : List Nat) (X : Ad) (i : Nat) (o : Oper) (k : OK) (v : Value) (c : List Value) (s : Nat → Value) (d : Nat → List Value) : Prop :=
  match k with
  | .no => Region.wanted o (yielded ops (tmA n s)) = false ∧ v = undef
  | .q rd => Region.wanted o (yielded ops (tmA n s)) = true ∧ ∀ w, OldB Bs w0 w → (∀ r ∈ rd, Cells w (X r) (d r)) → quietB P w v ((execOp (evF n s) o).run P w)
  | .a => Region.wanted o (yielded ops (tmA n s)) = true ∧ ∀ w, OldB Bs w0 w → w.heap.size = X i → newB w v c ((execOp (evF n s) o).run P w)
  | .st r => Region.wanted o (yielded ops (tmA n s)) = true ∧ v = undef ∧ ∀ w, OldB Bs w0 w → Cells w (X r) (d r) → writeB (X r) w c ((execOp (evF n s) o).run P w)

def updC (d : Nat → List Value) (r : Option Nat) (c : List Value) : Nat → List Value := fun j => if r = some j then c else d j
@[simp] theorem updC_none (d : Nat → List Value) (c : List Value) : updC d none c = d := by funext j; simp [updC]
@[simp] theorem updC_some (d : Nat → List Value) (r : Nat) (c : List Value) (j : Nat) : updC d (some r) c j = if r = j then c else d j := by simp [updC]

def walkR (P : Program) (kk : List OK) (ops : Array Oper) (n : Nat) (w0 : World) (Bs rs : List Nat) (K : (Nat → Value) → World → Prop) : Nat → List Oper → List OK → List (Ad → Value) → List (Ad → List Value) → (Ad → Nat → Value) → (Ad → Nat → List Value) → Prop
  | i, o :: os, k :: ks, v :: vs, c :: cs, s, d =>
    (∀ X, Good kk ops.size w0 Bs X → stepR P ops n w0 Bs X i o k (v X) (c X) (s X) (d X)) ∧ walkR P kk ops n w0 Bs rs K (i + 1) os ks vs cs (fun X => updS (s X) o.dst (v X)) (fun X => updC (d X) (k.wr i) (c X))
  | _, os, [], _, _, s, d => ∀ X, Good kk ops.size w0 Bs X → ∀ w, OldB Bs w0 w → (∀ r ∈ rs, Cells w (X r) (d X r)) → listF P ops n K os (s X) w
  | _, _, _, _, _, _, _ => False

/- the checks -/
def dstAt (l : List Oper) (j : Nat) : Option Nat := (l[j]?).bind (·.dst)
def aB (M : Array Nat) (i j : Nat) : Bool := (M.getD i 0).testBit j
def chkM (l : List Oper) (M : Array Nat) : Bool := (List.range l.length).all fun i => (List.range l.length).all fun j => !aB M i j || (decide (j < i) && match l[i]? with | some o => o.after.any fun e => Region.binds .any e && decide (e.on < i) && (e.on == j || aB M e.on j) | none => false)
def chkB (l : List Oper) (M : Array Nat) : Bool := (List.range l.length).all fun i => decide (M.getD i 0 < 2 ^ l.length)
def chkD (l : List Oper) (m : Nat) : Bool := (List.range m).all fun i => (List.range m).all fun j => i == j || dstAt l i == none || dstAt l i != dstAt l j
def chkO (l : List Oper) (M : Array Nat) (m : Nat) : Bool := (List.range m).all fun i => match l[i]? with | none => false | some o => (o.looksAt l.toArray).all fun t => (List.range m).all fun j => dstAt l j != some t || (decide (j < i) && aB M i j)
def chkU (l : List Oper) (M : Array Nat) (ks : List OK) (m : Nat) (nb : Nat) : Bool := (List.range m).all fun i => match ks[i]? with
  | none => false
  | some k => k.uses.all fun r => (decide (l.length ≤ r) && decide (r < l.length + nb) || decide (r < m) && isAat ks r && aB M i r) &&
      (List.range m).all fun j => ((ks[j]?).bind (·.wr j)) != some r || i == j || (decide (j < i) && aB M i j) || (decide (i < j) && aB M j i)
def chkT (l : List Oper) (M : Array Nat) (m : Nat) : Bool := (List.range l.length).all fun t => decide (t < m) || (List.range t).all fun j => aB M t j
def chkR (l : List Oper) (ks : List OK) (nb : Nat) : Bool :=
  let M := Region.before l.toArray
  Region.noSelect l.toArray && decide (ks.length ≤ l.length) && chkM l M && chkB l M && chkD l ks.length && chkO l M ks.length && chkU l M ks ks.length nb && chkT l M ks.length
/-- what an operation yields depends on no block but those of operations that came before it -/
def depR (len : Nat) (M : Array Nat) : Nat → List (Ad → Value) → List (Ad → List Value) → Prop
  | i, v :: vs, c :: cs => (∀ X X' : Ad, (∀ r, (r == i || aB M i r || decide (len ≤ r)) = true → X r = X' r) → v X = v X' ∧ c X = c X') ∧ depR len M (i + 1) vs cs
  | _, [], [] => True
  | _, _, _ => False

/- the frames and the contents ahead of operation i -/
def valAt (vs : List (Ad → Value)) (i : Nat) : Ad → Value := vs.getD i fun _ => undef
def conAt (cs : List (Ad → List Value)) (i : Nat) : Ad → List Value := cs.getD i fun _ => []
def wrAt (ks : List OK) (i : Nat) : Option Nat := (ks[i]?).bind (·.wr i)
def frA (l : List Oper) (vs : List (Ad → Value)) (s0 : Nat → Value) (X : Ad) : Nat → Nat → Value
  | 0 => s0
  | i + 1 => updS (frA l vs s0 X i) (dstAt l i) (valAt vs i X)
def cnL (ks : List OK) (cs : List (Ad → List Value)) (d0 : Nat → List Value) (X : Ad) (L : Nat → Bool) : Nat → Nat → List Value
  | 0, r => d0 r
  | i + 1, r => if L i = true ∧ wrAt ks i = some r then conAt cs i X else cnL ks cs d0 X L i r
def allT : Nat → Bool := fun _ => true

section
variable {P : Program} {l : List Oper} {ops : Array Oper} {n : Nat} {w0 : World} {Bs rs : List Nat} {K : (Nat → Value) → World → Prop} {ks : List OK} {vs : List (Ad → Value)} {cs : List (Ad → List Value)} {s0 : Nat → Value} {d0 : Nat → List Value}

theorem drop_cons {α : Type} {l : List α} {i : Nat} {x : α} {xs : List α} (h : l.drop i = x :: xs) : l[i]? = some x ∧ xs = l.drop (i + 1) := by
  constructor
  · rw [← List.head?_drop, h]; rfl
  · rw [← List.tail_drop, h]; rfl

theorem walkR_get {kk : List OK} : ∀ (t i : Nat), i + t = ks.length → walkR P kk ops n w0 Bs rs K i (l.drop i) (ks.drop i) (vs.drop i) (cs.drop i) (fun X => frA l vs s0 X i) (fun X => cnL ks cs d0 X allT i) →
    (∀ i', i ≤ i' → i' < ks.length → ∃ o k, l[i']? = some o ∧ ks[i']? = some k ∧ ∀ X, Good kk ops.size w0 Bs X → stepR P ops n w0 Bs X i' o k (valAt vs i' X) (conAt cs i' X) (frA l vs s0 X i') (cnL ks cs d0 X allT i')) ∧
    (∀ X, Good kk ops.size w0 Bs X → ∀ w, OldB Bs w0 w → (∀ r ∈ rs, Cells w (X r) (cnL ks cs d0 X allT ks.length r)) → listF P ops n K (l.drop ks.length) (frA l vs s0 X ks.length) w)
  | 0, i, hi, h => by
    obtain rfl : i = ks.length := by omega
    rw [List.drop_length] at h
    refine ⟨fun i' h1 h2 => by omega, ?_⟩
    cases ho : l.drop ks.length with
    | nil => rw [ho] at h; simpa only [walkR] using h
    | cons o os => rw [ho] at h; simpa only [walkR] using h
  | t + 1, i, hi, h => by
    have hk : i < ks.length := by omega
    have hkd := List.drop_eq_getElem_cons hk
    rw [hkd] at h
    cases ho : l.drop i with
    | nil => rw [ho] at h; simp [walkR] at h
    | cons o os =>
      cases hv : vs.drop i with
      | nil => rw [ho, hv] at h; simp [walkR] at h
      | cons v vs' =>
        cases hc : cs.drop i with
        | nil => rw [ho, hv, hc] at h; simp [walkR] at h
        | cons c cs' =>
          rw [ho, hv, hc] at h
          obtain ⟨h1, h2⟩ := h
          obtain ⟨ho1, rfl⟩ := drop_cons ho
          obtain ⟨hv1, rfl⟩ := drop_cons hv
          obtain ⟨hc1, rfl⟩ := drop_cons hc
          have ev : valAt vs i = v := by simp [valAt, List.getD_eq_getElem?_getD, hv1]
          have ec : conAt cs i = c := by simp [conAt, List.getD_eq_getElem?_getD, hc1]
          have ed : dstAt l i = o.dst := by simp [dstAt, ho1]
          have ew : wrAt ks i = ks[i].wr i := by simp [wrAt, hk]
          have es : (fun X => updS (frA l vs s0 X i) o.dst (v X)) = fun X => frA l vs s0 X (i + 1) := by
            funext X; show _ = updS _ (dstAt l i) (valAt vs i X); rw [ed, ev]
          have ecn : (fun X => updC (cnL ks cs d0 X allT i) (ks[i].wr i) (c X)) = fun X => cnL ks cs d0 X allT (i + 1) := by
            funext X r
            simp only [cnL, allT, updC, ew, ec, true_and]
          rw [es, ecn] at h2
          obtain ⟨g1, g2⟩ := walkR_get t (i + 1) (by omega) h2
          refine ⟨fun i' h3 h4 => ?_, g2⟩
          rcases Nat.eq_or_lt_of_le h3 with e | e
          · subst e
            refine ⟨o, ks[i], ho1, by simp [hk], fun X hX => ?_⟩
            rw [ev, ec]; exact h1 X hX
          · exact g1 i' e h4

theorem frA_un {X : Ad} {t : Nat} : ∀ i, (∀ j, j < i → dstAt l j ≠ some t) → frA l vs s0 X i t = s0 t
  | 0, _ => rfl
  | i + 1, h => by
    have h1 := h i (by omega)
    simp only [frA]
    cases hd : dstAt l i with
    | none => exact frA_un i fun j hj => h j (by omega)
    | some d =>
      simp only [updS_some]
      rw [if_neg (fun e => h1 (by rw [hd, e]))]
      exact frA_un i fun j hj => h j (by omega)
theorem frA_at {X : Ad} {t j : Nat} (hj : dstAt l j = some t) : ∀ i, j < i → (∀ j', j' < i → j' ≠ j → dstAt l j' ≠ some t) → frA l vs s0 X i t = valAt vs j X
  | 0, h, _ => by omega
  | i + 1, h, hu => by
    simp only [frA]
    by_cases hij : i = j
    · subst hij; rw [hj]; simp
    · have h1 := hu i (by omega) hij
      cases hd : dstAt l i with
      | none => exact frA_at hj i (by omega) fun j' hj' => hu j' (by omega)
      | some d =>
        simp only [updS_some]
        rw [if_neg (fun e => h1 (by rw [hd, e]))]
        exact frA_at hj i (by omega) fun j' hj' => hu j' (by omega)

theorem cnL_congr {X X' : Ad} {L L' : Nat → Bool} {r : Nat} : ∀ i, (∀ j, j < i → wrAt ks j = some r → (L j = true ∧ L' j = true ∧ conAt cs j X = conAt cs j X') ∨ (L j = false ∧ L' j = false)) → cnL ks cs d0 X L i r = cnL ks cs d0 X' L' i r
  | 0, _ => rfl
  | i + 1, h => by
    have ih := cnL_congr i fun j hj => h j (by omega)
    simp only [cnL]
    by_cases hw : wrAt ks i = some r
    · rcases h i (by omega) hw with ⟨h1, h2, h3⟩ | ⟨h1, h2⟩
      · rw [if_pos ⟨h1, hw⟩, if_pos ⟨h2, hw⟩, h3]
      · rw [if_neg (by simp [h1]), if_neg (by simp [h2]), ih]
    · rw [if_neg (fun e => hw e.2), if_neg (fun e => hw e.2), ih]
theorem cnL_skip {X : Ad} {L : Nat → Bool} {r i : Nat} : ∀ m, i ≤ m → (∀ j, i ≤ j → j < m → wrAt ks j = some r → L j = false) → cnL ks cs d0 X L m r = cnL ks cs d0 X L i r
  | 0, h, _ => by obtain rfl : i = 0 := by omega
                  rfl
  | m + 1, h, hs => by
    by_cases e : i = m + 1
    · subst e; rfl
    · simp only [cnL]
      rw [if_neg (fun ⟨h1, h2⟩ => by rw [hs m (by omega) (by omega) h2] at h1; cases h1)]
      exact cnL_skip m (by omega) fun j h1 h2 => hs j h1 (by omega)
end
end

section
variable {ds : List Deferred}

section
variable {P : Program} {l : List Oper} {n : Nat} {w0 : World} {Bs rs : List Nat} {K : (Nat → Value) → World → Prop} {ks : List OK} {vs : List (Ad → Value)} {cs : List (Ad → List Value)} {s0 : Nat → Value} {d0 : Nat → List Value}

structure Chk (l : List Oper) (M : Array Nat) (ks : List OK) (nb : Nat) : Prop where
  sel : Region.noSelect l.toArray = true
  le : ks.length ≤ l.length
  anc : ∀ i j o, l[i]? = some o → aB M i j = true → ∃ e ∈ o.after.toList, Region.binds .any e = true ∧ (e.on = j ∨ aB M e.on j = true)
  lt : ∀ i j, i < l.length → aB M i j = true → j < i
  dst : ∀ i j d, i < ks.length → j < ks.length → dstAt l i = some d → dstAt l j = some d → i = j
  looks : ∀ i o, i < ks.length → l[i]? = some o → ∀ t ∈ o.looksAt l.toArray, ∀ j, j < ks.length → dstAt l j = some t → j < i ∧ aB M i j = true
  uses : ∀ i k, ks[i]? = some k → ∀ r ∈ k.uses, ((l.length ≤ r ∧ r < l.length + nb) ∨ (r < ks.length ∧ isAat ks r = true ∧ aB M i r = true)) ∧ ∀ j, j < ks.length → wrAt ks j = some r → i = j ∨ (j < i ∧ aB M i j = true) ∨ (i < j ∧ aB M j i = true)
  tail : ∀ t j, t < l.length → ks.length ≤ t → j < t → aB M t j = true

theorem chk_of {nb : Nat} (h : chkR l ks nb = true) : Chk l (Region.before l.toArray) ks nb := by
  unfold chkR at h
  simp only [Bool.and_eq_true, decide_eq_true_eq] at h
  obtain ⟨⟨⟨⟨⟨⟨⟨h1, h2⟩, h3⟩, h3b⟩, h4⟩, h5⟩, h6⟩, h7⟩ := h
  have hbit : ∀ i j, i < l.length → aB (Region.before l.toArray) i j = true → j < l.length := by
    intro i j hi hj
    unfold chkB at h3b
    rw [List.all_eq_true] at h3b
    have := h3b i (by simpa using hi)
    simp only [decide_eq_true_eq] at this
    unfold aB at hj
    rcases Nat.lt_or_ge j l.length with h | h
    · exact h
    · have h2 := Nat.testBit_lt_two_pow (Nat.lt_of_lt_of_le this (Nat.pow_le_pow_right (by omega) h))
      rw [h2] at hj; cases hj
  refine ⟨h1, h2, ?_, ?_, ?_, ?_, ?_, ?_⟩
  · intro i j o ho hj
    have hi : i < l.length := (List.getElem?_eq_some_iff.1 ho).1
    unfold chkM at h3
    rw [List.all_eq_true] at h3
    have := h3 i (by simpa using hi)
    rw [List.all_eq_true] at this
    have := this j (by simpa using hbit i j hi hj)
    rw [hj, ho] at this
    simp only [Bool.not_true, Bool.false_or, Bool.and_eq_true, decide_eq_true_eq] at this
    obtain ⟨_, ha⟩ := this
    obtain ⟨e, he, hb⟩ := Array.any_eq_true'.1 ha
    simp only [Bool.and_eq_true, Bool.or_eq_true, beq_iff_eq, decide_eq_true_eq] at hb
    exact ⟨e, by simpa using he, hb.1.1, hb.2⟩
  · intro i j hi hj
    unfold chkM at h3
    rw [List.all_eq_true] at h3
    have := h3 i (by simpa using hi)
    rw [List.all_eq_true] at this
    have := this j (by simpa using hbit i j hi hj)
    rw [hj] at this
    simp only [Bool.not_true, Bool.false_or, Bool.and_eq_true, decide_eq_true_eq] at this
    exact this.1
  · intro i j d hi hj h1 h2
    unfold chkD at h4
    rw [List.all_eq_true] at h4
    have := h4 i (by simpa using hi)
    rw [List.all_eq_true] at this
    have := this j (by simpa using hj)
    rw [h1, h2] at this
    simpa using this
  · intro i o hi ho t ht j hj hd
    unfold chkO at h5
    rw [List.all_eq_true] at h5
    have := h5 i (by simpa using hi)
    rw [ho] at this
    simp only at this
    rw [List.all_eq_true] at this
    have := this t ht
    rw [List.all_eq_true] at this
    have := this j (by simpa using hj)
    rw [hd] at this
    simpa using this
  · intro i k hk r hr
    have hi : i < ks.length := (List.getElem?_eq_some_iff.1 hk).1
    unfold chkU at h6
    rw [List.all_eq_true] at h6
    have := h6 i (by simpa using hi)
    rw [hk] at this
    simp only at this
    rw [List.all_eq_true] at this
    have := this r hr
    simp only [Bool.and_eq_true, Bool.or_eq_true, decide_eq_true_eq] at this
    obtain ⟨ha, hb⟩ := this
    refine ⟨?_, ?_⟩
    · rcases ha with ha | ha
      · exact .inl ha
      · exact .inr ⟨ha.1.1, ha.1.2, ha.2⟩
    · intro j hj hw
      rw [List.all_eq_true] at hb
      have := hb j (by simpa using hj)
      have hw' : ((ks[j]?).bind (·.wr j)) = some r := hw
      rw [hw'] at this
      simp only [bne_self_eq_false, Bool.false_or, Bool.or_eq_true, beq_iff_eq, Bool.and_eq_true, decide_eq_true_eq] at this
      rcases this with (h | h) | h
      · exact .inl h
      · exact .inr (.inl h)
      · exact .inr (.inr h)
  · intro t j ht hm hj
    unfold chkT at h7
    rw [List.all_eq_true] at h7
    have := h7 t (by simpa using ht)
    simp only [Bool.or_eq_true, decide_eq_true_eq] at this
    rcases this with h | h
    · omega
    · rw [List.all_eq_true] at h
      exact h j (by simpa using hj)

theorem depR_get {len : Nat} {M : Array Nat} : ∀ (vs : List (Ad → Value)) (cs : List (Ad → List Value)) (i : Nat), depR len M i vs cs → ∀ j, ∀ X X' : Ad, (∀ r, (r == i + j || aB M (i + j) r || decide (len ≤ r)) = true → X r = X' r) → valAt vs j X = valAt vs j X' ∧ conAt cs j X = conAt cs j X'
  | [], [], i, _, j, X, X', _ => by simp [valAt, conAt]
  | v :: vs, c :: cs, i, h, 0, X, X', hx => h.1 X X' hx
  | v :: vs, c :: cs, i, h, j + 1, X, X', hx => by
    have := depR_get vs cs (i + 1) h.2 j X X' (fun r hr => hx r (by rw [show i + (j + 1) = i + 1 + j by omega]; exact hr))
    simpa [valAt, conAt] using this
  | [], _ :: _, _, h, _, _, _, _ => h.elim
  | _ :: _, [], _, h, _, _, _, _ => h.elim

theorem OldB.below {w w' : World} (h : OldB Bs w0 w) (hb : Below w.heap.size w w') : OldB Bs w0 w' :=
  ⟨hb.os.trans h.os, hb.tape.trans h.tape, hb.output.trans h.output, Nat.le_trans h.size hb.size, fun k hk hn => (hb.block k (Nat.lt_of_lt_of_le hk h.size)).trans (h.block k hk hn)⟩
theorem OldB.only {w w' : World} {b : Nat} (h : OldB Bs w0 w) (ho : Only b w w') (hb : w0.heap.size ≤ b ∨ b ∈ Bs) : OldB Bs w0 w' := by
  refine ⟨ho.os.trans h.os, ho.tape.trans h.tape, ho.output.trans h.output, by rw [ho.size]; exact h.size, fun k hk hn => ?_⟩
  rw [ho.block k (by rintro rfl; rcases hb with h | h; omega; exact hn h)]
  exact h.block k hk hn

theorem mkA_congr {s s' : Nat → Value} (h : ∀ t, t < n → s t = s' t) : mkA n s ds = mkA n s' ds := by
  apply Act.ext'
  · apply Array.ext_getElem?
    intro k
    show (tmA n s)[k]? = (tmA n s')[k]?
    rw [mkA_get, mkA_get]
    split
    · rename_i hk; rw [h k hk]
    · rfl
  · rfl
theorem evF_congr {s s' : Nat → Value} (h : ∀ t, t < n → s t = s' t) : evF n s = evF n s' := by
  rw [← mkA_eval (ds := []), ← mkA_eval (ds := []), mkA_congr h]
theorem tmA_congr {s s' : Nat → Value} (h : ∀ t, t < n → s t = s' t) : tmA n s = tmA n s' := by
  have := mkA_congr (ds := []) h
  exact congrArg Act.tmps this

theorem exec_looks {o : Oper} {s s' : Nat → Value} (hs : ∀ c b, o.op ≠ .select c b) (h : ∀ t, t ∈ o.looksAt l.toArray → t < n → s t = s' t) : execOp (evF n s) o = execOp (evF n s') o := by
  refine execOp_congr o hs fun x hx => ?_
  cases x with
  | tmp t =>
    simp only [evF_tmp]
    split
    · rename_i ht
      refine h t ?_ ht
      exact List.mem_append_left _ (List.mem_filterMap.2 ⟨.tmp t, by simpa using hx, rfl⟩)
    · rfl
  | const v => rfl
  | global g => rfl
  | func f => rfl
theorem wanted_looks {o : Oper} {s s' : Nat → Value} (h : ∀ t, t ∈ o.looksAt l.toArray → t < n → s t = s' t) : Region.wanted o (yielded l.toArray (tmA n s)) = Region.wanted o (yielded l.toArray (tmA n s')) := by
  unfold Region.wanted
  cases hg : o.guard with
  | none => rfl
  | some gb =>
    obtain ⟨g, b⟩ := gb
    simp only
    have : yielded l.toArray (tmA n s) g = yielded l.toArray (tmA n s') g := by
      unfold yielded
      cases hd : (l.toArray[g]?).bind (·.dst) with
      | none => rfl
      | some d =>
        simp only [Option.bind_some, mkA_get]
        by_cases hn : d < n
        · have : d ∈ o.looksAt l.toArray := by
            unfold Oper.looksAt
            rw [hg]
            simp only [hd, Option.toList]
            exact List.mem_append_right _ (by simp)
          rw [if_pos hn, if_pos hn, h d this hn]
        · rw [if_neg hn, if_neg hn]
    rw [this]
end
end

section
variable {ds : List Deferred}

def alive (ks : List OK) (len nb : Nat) (L : Nat → Bool) (r : Nat) : Prop := (L r = true ∧ isAat ks r = true) ∨ (len ≤ r ∧ r < len + nb)

structure J1 (l : List Oper) (n : Nat) (w0 : World) (Bs : List Nat) (ks : List OK) (vs : List (Ad → Value)) (cs : List (Ad → List Value)) (s0 : Nat → Value) (d0 : Nat → List Value) (X : Ad) (L : Nat → Bool) (s : Nat → Value) (w : World) : Prop where
  g : Good ks l.length w0 Bs X
  old : OldB Bs w0 w
  sz : ∀ i, L i = true → isAat ks i = true → X i < w.heap.size
  cl : ∀ i j, L i = true → aB (Region.before l.toArray) i j = true → L j = true
  lo : ∀ i, L i = true → i < ks.length
  ce : ∀ r, alive ks l.length Bs.length L r → Cells w (X r) (cnL ks cs d0 X L ks.length r)
  sl : ∀ i d, L i = true → dstAt l i = some d → s d = valAt vs i X
  un : ∀ d, d < n → (∀ i, L i = true → dstAt l i ≠ some d) → s d = s0 d

section
variable {P : Program} {l : List Oper} {n : Nat} {w0 : World} {Bs rs : List Nat} {K : (Nat → Value) → World → Prop} {ks : List OK} {vs : List (Ad → Value)} {cs : List (Ad → List Value)} {s0 : Nat → Value} {d0 : Nat → List Value}
variable {X X' : Ad} {L : Nat → Bool} {s : Nat → Value} {w w' : World} {i : Nat} {o : Oper} {k : OK}

theorem isA_lt (h : isAat ks i = true) : i < ks.length := by
  unfold isAat at h
  cases hk : ks[i]? with
  | none => rw [hk] at h; simp at h
  | some k => exact (List.getElem?_eq_some_iff.1 hk).1
theorem isA_wr (h : isAat ks i = true) : wrAt ks i = some i := by
  unfold isAat at h
  unfold wrAt
  cases hk : ks[i]? with
  | none => rw [hk] at h; simp at h
  | some k => rw [hk] at h; cases k <;> simp_all [OK.isA]

theorem J1.stab (hdep : depR l.length (Region.before l.toArray) 0 vs cs) (h : J1 l n w0 Bs ks vs cs s0 d0 X L s w) (ha : ∀ r, L r = true ∨ l.length ≤ r → X r = X' r) {j : Nat} (hj : L j = true) : valAt vs j X = valAt vs j X' ∧ conAt cs j X = conAt cs j X' := by
  refine depR_get vs cs 0 hdep j X X' fun r hr => ?_
  simp only [Nat.zero_add, Bool.or_eq_true, beq_iff_eq, decide_eq_true_eq] at hr
  rcases hr with (rfl | hr) | hr
  · exact ha _ (.inl hj)
  · exact ha _ (.inl (h.cl j r hj hr))
  · exact ha _ (.inr hr)

/-- other addresses for what has not been made yet -/
theorem J1.re (hdep : depR l.length (Region.before l.toArray) 0 vs cs) (hm : ks.length ≤ l.length) (h : J1 l n w0 Bs ks vs cs s0 d0 X L s w) (ha : ∀ r, L r = true ∨ l.length ≤ r → X r = X' r) (hg : Good ks l.length w0 Bs X') : J1 l n w0 Bs ks vs cs s0 d0 X' L s w := by
  refine ⟨hg, h.old, fun i hi hA => by rw [← ha i (.inl hi)]; exact h.sz i hi hA, h.cl, h.lo, ?_, fun i d hi hd => by rw [h.sl i d hi hd]; exact (h.stab hdep ha hi).1, h.un⟩
  intro r hr
  have e : X r = X' r := by
    rcases hr with hr | hr
    · exact ha r (.inl hr.1)
    · exact ha r (.inr hr.1)
  have := h.ce r hr
  rw [← e]
  rw [cnL_congr (X' := X') (L' := L) ks.length] at this
  · exact this
  · intro j hj hw
    cases hl : L j with
    | true => exact .inl ⟨rfl, rfl, (h.stab hdep ha hl).2⟩
    | false => exact .inr ⟨rfl, rfl⟩

/-- what the frame holds is what the walk's frame holds, where operation i looks -/
theorem J1.looks (hc : Chk l (Region.before l.toArray) ks Bs.length) (h : J1 l n w0 Bs ks vs cs s0 d0 X L s w) (hi : i < ks.length) (ho : l[i]? = some o) (hA : ∀ j, aB (Region.before l.toArray) i j = true → L j = true) :
    ∀ t, t ∈ o.looksAt l.toArray → t < n → s t = frA l vs s0 X i t := by
  intro t ht hn
  by_cases hw : ∃ j, j < ks.length ∧ dstAt l j = some t
  · obtain ⟨j, hj, hd⟩ := hw
    obtain ⟨hlt, ha⟩ := hc.looks i o hi ho t ht j hj hd
    rw [h.sl j t (hA j ha) hd]
    refine (frA_at hd i hlt fun j' hj' hne hd' => hne ?_).symm
    exact hc.dst j' j t (by omega) hj hd' hd
  · have hw' : ∀ j, j < ks.length → dstAt l j ≠ some t := fun j hj hd => hw ⟨j, hj, hd⟩
    rw [frA_un i fun j hj => hw' j (by omega)]
    exact h.un t hn fun j hj => hw' j (h.lo j hj)

theorem J1.cont (hc : Chk l (Region.before l.toArray) ks Bs.length) (h : J1 l n w0 Bs ks vs cs s0 d0 X L s w) (hk : ks[i]? = some k) (hL : L i = false) (hA : ∀ j, aB (Region.before l.toArray) i j = true → L j = true) {r : Nat} (hr : r ∈ k.uses) :
    alive ks l.length Bs.length L r ∧ cnL ks cs d0 X L ks.length r = cnL ks cs d0 X allT i r := by
  obtain ⟨h1, h2⟩ := hc.uses i k hk r hr
  have hi : i < ks.length := (List.getElem?_eq_some_iff.1 hk).1
  constructor
  · rcases h1 with h1 | h1
    · exact .inr h1
    · exact .inl ⟨hA r h1.2.2, h1.2.1⟩
  · have hlate : ∀ j, i ≤ j → j < ks.length → wrAt ks j = some r → L j = false := by
      intro j hij hj hw
      rcases h2 j hj hw with e | ⟨e, _⟩ | ⟨_, e⟩
      · subst e; exact hL
      · omega
      · cases hl : L j with
        | false => rfl
        | true => rw [h.cl j i hl e] at hL; cases hL
    rw [cnL_skip ks.length (by omega) hlate]
    refine cnL_congr i fun j hj hw => .inl ⟨?_, rfl, rfl⟩
    rcases h2 j (by omega) hw with e | ⟨_, e⟩ | ⟨e, _⟩
    · omega
    · exact hA j e
    · omega

theorem cnL_last {r m : Nat} (hL : L i = true) (hw : wrAt ks i = some r) (hi : i < m) (hs : ∀ j, i < j → j < m → wrAt ks j = some r → L j = false) : cnL ks cs d0 X L m r = conAt cs i X := by
  rw [cnL_skip m (Nat.succ_le_of_lt hi) fun j h1 h2 => hs j h1 h2]
  simp only [cnL]
  rw [if_pos ⟨hL, hw⟩]

theorem upd_true (j : Nat) (h : upd L i j = true) : j = i ∨ L j = true := by
  unfold upd at h
  by_cases e : j = i
  · exact .inl e
  · rw [if_neg e] at h; exact .inr h
theorem upd_old (j : Nat) (h : L j = true) : upd L i j = true := by
  unfold upd
  split
  · rfl
  · exact h
theorem upd_self : upd L i i = true := by simp [upd]
theorem upd_ne {j : Nat} (h : j ≠ i) : upd L i j = L j := by simp [upd, h]

/-- one operation more -/
theorem J1.step (hc : Chk l (Region.before l.toArray) ks Bs.length) (h : J1 l n w0 Bs ks vs cs s0 d0 X L s w) (hi : i < ks.length) (hL : L i = false) (hA : ∀ j, aB (Region.before l.toArray) i j = true → L j = true)
    (hold : OldB Bs w0 w') (hsz : w.heap.size ≤ w'.heap.size) (hszi : isAat ks i = true → X i < w'.heap.size)
    (hce : ∀ r, alive ks l.length Bs.length (upd L i) r → Cells w' (X r) (cnL ks cs d0 X (upd L i) ks.length r)) :
    J1 l n w0 Bs ks vs cs s0 d0 X (upd L i) (updS s (dstAt l i) (valAt vs i X)) w' := by
  refine ⟨h.g, hold, ?_, ?_, ?_, hce, ?_, ?_⟩
  · intro j hj ha
    rcases upd_true j hj with rfl | hj
    · exact hszi ha
    · exact Nat.lt_of_lt_of_le (h.sz j hj ha) hsz
  · intro j j' hj ha
    rcases upd_true j hj with rfl | hj
    · exact upd_old _ (hA j' ha)
    · exact upd_old _ (h.cl j j' hj ha)
  · intro j hj
    rcases upd_true j hj with rfl | hj
    · exact hi
    · exact h.lo j hj
  · intro j d hj hd
    rcases upd_true j hj with rfl | hj'
    · rw [hd]; simp
    · have hne : j ≠ i := fun e => by subst e; rw [hL] at hj'; cases hj'
      cases hdi : dstAt l i with
      | none => exact h.sl j d hj' hd
      | some d' =>
        simp only [updS_some]
        rw [if_neg (fun e => hne (hc.dst j i d (h.lo j hj') hi hd (by rw [hdi, e])))]
        exact h.sl j d hj' hd
  · intro d hd hno
    have h1 := hno i upd_self
    cases hdi : dstAt l i with
    | none => exact h.un d hd fun j hj => hno j (upd_old j hj)
    | some d' =>
      simp only [updS_some]
      rw [if_neg (fun e => h1 (by rw [hdi, e]))]
      exact h.un d hd fun j hj => hno j (upd_old j hj)

theorem cn_other {r : Nat} (h : wrAt ks i ≠ some r) (m : Nat) : cnL ks cs d0 X (upd L i) m r = cnL ks cs d0 X L m r := by
  refine cnL_congr m fun j _ hw => ?_
  have hne : j ≠ i := fun e => h (by rw [← e]; exact hw)
  rw [upd_ne hne]
  cases L j <;> simp
theorem alive_upd {r nb len : Nat} (h : alive ks len nb (upd L i) r) : (r = i ∧ isAat ks i = true) ∨ alive ks len nb L r := by
  rcases h with ⟨h1, h2⟩ | h
  · rcases upd_true r h1 with rfl | h1
    · exact .inl ⟨rfl, h2⟩
    · exact .inr (.inl ⟨h1, h2⟩)
  · exact .inr (.inr h)
theorem alive_lt {r len nb : Nat} (hg : Good ks len w0 Bs X) (hB : ∀ b ∈ Bs, b < w0.heap.size) (hnb : nb = Bs.length) (h : alive ks len nb L r) : (isAat ks r = true ∧ w0.heap.size ≤ X r) ∨ (∃ k, r = len + k ∧ k < Bs.length ∧ X r ∈ Bs ∧ X r < w0.heap.size) := by
  rcases h with ⟨_, h⟩ | ⟨h1, h2⟩
  · exact .inl ⟨h, hg.lo r h⟩
  · refine .inr ⟨r - len, by omega, by omega, ?_⟩
    have hk : r - len < Bs.length := by omega
    have e := hg.at0 (r - len) Bs[r - len] (by simp [hk])
    rw [show len + (r - len) = r by omega] at e
    rw [e]
    exact ⟨List.getElem_mem hk, hB _ (List.getElem_mem hk)⟩
theorem alive_ne {r r' len : Nat} {L' : Nat → Bool} (hg : Good ks len w0 Bs X) (hB : ∀ b ∈ Bs, b < w0.heap.size) (hN : Bs.Nodup) (hlen : ks.length ≤ len) (h : alive ks len Bs.length L r) (h' : alive ks len Bs.length L' r') (hne : r ≠ r') : X r ≠ X r' := by
  rcases alive_lt hg hB rfl h with ⟨a1, a2⟩ | ⟨k, rfl, hk, hm, hl⟩
  · rcases alive_lt hg hB rfl h' with ⟨b1, b2⟩ | ⟨k', rfl, hk', hm', hl'⟩
    · exact hg.ne r r' a1 b1 hne
    · omega
  · rcases alive_lt hg hB rfl h' with ⟨b1, b2⟩ | ⟨k', rfl, hk', hm', hl'⟩
    · omega
    · have e1 := hg.at0 k Bs[k] (by simp [hk])
      have e2 := hg.at0 k' Bs[k'] (by simp [hk'])
      rw [e1, e2]
      intro e
      have := (List.getElem_inj hN).1 e
      exact hne (by rw [this])

theorem looks_step (hc : Chk l (Region.before l.toArray) ks Bs.length) (hdep : depR l.length (Region.before l.toArray) 0 vs cs) (hB : ∀ b ∈ Bs, b < w0.heap.size) (hN : Bs.Nodup)
    (hf : ∃ o k, l[i]? = some o ∧ ks[i]? = some k ∧ ∀ X, Good ks l.length w0 Bs X → stepR P l.toArray n w0 Bs X i o k (valAt vs i X) (conAt cs i X) (frA l vs s0 X i) (cnL ks cs d0 X allT i))
    (h : J1 l n w0 Bs ks vs cs s0 d0 X L s w) (ho : l[i]? = some o) (hL : L i = false) (hd : ∀ e ∈ o.after.toList, Region.binds .any e = true → L e.on = true)
    (Kv : Value → World → Prop) (hK : ∀ X v w', J1 l n w0 Bs ks vs cs s0 d0 X (upd L i) (updS s o.dst v) w' → Kv v w') :
    if Region.wanted o (yielded l.toArray (tmA n s)) then opF P o n s w Kv else Kv undef w := by
  obtain ⟨o', k, ho', hk, hst⟩ := hf
  obtain rfl : o' = o := Option.some.inj (ho'.symm.trans ho)
  have hi : i < ks.length := (List.getElem?_eq_some_iff.1 hk).1
  have hA : ∀ j, aB (Region.before l.toArray) i j = true → L j = true := by
    intro j hj
    obtain ⟨e, he, hb, hor⟩ := hc.anc i j o' ho hj
    have h1 := hd e he hb
    rcases hor with rfl | hor
    · exact h1
    · exact h.cl e.on j h1 hor
  have hds : dstAt l i = o'.dst := by simp [dstAt, ho]
  have hwr : wrAt ks i = k.wr i := by simp [wrAt, hk]
  have hisA : isAat ks i = k.isA := by simp [isAat, hk]
  have hsel : ∀ c b, o'.op ≠ .select c b := fun c b => Region.noSelect_spec hc.sel i o' c b (by simpa using ho)
  have hfin : ∀ (X : Ad) (w' : World), J1 l n w0 Bs ks vs cs s0 d0 X (upd L i) (updS s (dstAt l i) (valAt vs i X)) w' → Kv (valAt vs i X) w' := by
    intro X w' hj; rw [hds] at hj; exact hK X _ _ hj
  have keep : ∀ {w' : World} (X : Ad), J1 l n w0 Bs ks vs cs s0 d0 X L s w → wrAt ks i = none → isAat ks i = false → Below w.heap.size w w' → J1 l n w0 Bs ks vs cs s0 d0 X (upd L i) (updS s (dstAt l i) (valAt vs i X)) w' := by
    intro w' X h hw hA0 hb
    refine h.step hc hi hL hA (h.old.below hb) hb.size (by rw [hA0]; intro e; cases e) ?_
    intro r hr
    rcases alive_upd hr with ⟨rfl, e⟩ | hr
    · rw [hA0] at e; cases e
    · rw [cn_other (by rw [hw]; simp)]
      exact (h.ce r hr).at hb
  cases k with
  | no =>
    obtain ⟨h1, h2⟩ := hst X h.g
    rw [if_neg (by rw [wanted_looks (h.looks hc hi ho hA), h1]; simp)]
    have := hfin X w (keep X h hwr hisA (Below.refl _ _))
    rwa [h2] at this
  | q rd =>
    obtain ⟨h1, h2⟩ := hst X h.g
    rw [if_pos (by rw [wanted_looks (h.looks hc hi ho hA), h1])]
    have h3 := h2 w h.old fun r hr => by
      obtain ⟨ha, he⟩ := h.cont hc hk hL hA (r := r) hr
      rw [← he]; exact h.ce r ha
    rw [← exec_looks hsel (h.looks hc hi ho hA)] at h3
    unfold opF
    generalize (execOp (evF n s) o').run P w = res at h3 ⊢
    cases res with
    | ok nx w1 =>
      cases nx with
      | value u =>
        simp only [quietB] at h3
        obtain ⟨rfl, rfl⟩ := h3
        exact hfin X _ (keep X h hwr hisA (Below.refl _ _))
      | skip =>
        simp only [quietB] at h3
        obtain ⟨rfl, h4⟩ := h3
        have := hfin X _ (keep X h hwr hisA (Below.refl _ _))
        rw [h4] at this
        exact this
      | enter f args =>
        simp only [quietB] at h3
        obtain ⟨rfl, h4⟩ := h3
        exact h4.mono fun e w2 ⟨he, hb⟩ => ⟨_, he, hfin X _ (keep X h hwr hisA hb)⟩
      | _ => exact h3.elim
    | halt x w1 => exact h3.elim
  | a =>
    have hwr' : wrAt ks i = some i := hwr
    let X1 : Ad := fun r => if l.length ≤ r then X r else if L r then X r else if r = i then w.heap.size else w.heap.size + 1 + r
    have hlen := hc.le
    have hag : ∀ r, L r = true ∨ l.length ≤ r → X r = X1 r := by
      intro r hr
      show X r = if l.length ≤ r then X r else if L r then X r else if r = i then w.heap.size else w.heap.size + 1 + r
      by_cases h1 : l.length ≤ r
      · rw [if_pos h1]
      · rw [if_neg h1]
        rcases hr with hr | hr
        · rw [if_pos hr]
        · exact absurd hr h1
    have hX1i : X1 i = w.heap.size := by
      show (if l.length ≤ i then X i else if L i then X i else if i = i then w.heap.size else w.heap.size + 1 + i) = _
      rw [if_neg (by omega), hL]; simp
    have hX1 : ∀ r, isAat ks r = true → (L r = true ∧ X1 r = X r ∧ X1 r < w.heap.size) ∨ (L r = false ∧ X1 r = if r = i then w.heap.size else w.heap.size + 1 + r) := by
      intro r hr
      have hrl := isA_lt hr
      cases hl : L r with
      | true => refine .inl ⟨rfl, (hag r (.inl hl)).symm, ?_⟩; rw [← hag r (.inl hl)]; exact h.sz r hl hr
      | false =>
        refine .inr ⟨rfl, ?_⟩
        show (if l.length ≤ r then X r else if L r then X r else if r = i then w.heap.size else w.heap.size + 1 + r) = _
        rw [if_neg (by omega), hl]; simp
    have hg1 : Good ks l.length w0 Bs X1 := by
      refine ⟨?_, ?_, ?_⟩
      · intro r hr
        rcases hX1 r hr with ⟨_, e, _⟩ | ⟨_, e⟩
        · rw [e]; exact h.g.lo r hr
        · rw [e]; have := h.old.size; split <;> omega
      · intro a b ha hb hne
        rcases hX1 a ha with ⟨_, e1, l1⟩ | ⟨_, e1⟩ <;> rcases hX1 b hb with ⟨_, e2, l2⟩ | ⟨_, e2⟩
        · rw [e1, e2]; exact h.g.ne a b ha hb hne
        · rw [e2]; split <;> omega
        · rw [e1]; split <;> omega
        · rw [e1, e2]
          split <;> split <;> omega
      · intro k b hb
        rw [← hag (l.length + k) (.inr (by omega))]
        exact h.g.at0 k b hb
    have h' := h.re hdep hlen hag hg1
    obtain ⟨h1, h2⟩ := hst X1 hg1
    rw [if_pos (by rw [wanted_looks (h'.looks hc hi ho hA), h1])]
    have h3 := h2 w h.old hX1i.symm
    rw [← exec_looks hsel (h'.looks hc hi ho hA)] at h3
    unfold opF
    generalize (execOp (evF n s) o').run P w = res at h3 ⊢
    cases res with
    | ok nx w1 =>
      cases nx with
      | value u =>
        simp only [newB] at h3
        obtain ⟨cc, T, rfl, hcc, rfl⟩ := h3
        refine hfin X1 _ ?_
        have hb : Below w.heap.size w (w.alloc (.cells cc T)) := (Below.refl _ _).alloc (Nat.le_refl _) _
        refine h'.step hc hi hL hA (h.old.below hb) hb.size (fun _ => by rw [hX1i]; simp) ?_
        intro r hr
        by_cases hri : r = i
        · subst hri
          rw [cnL_last upd_self hwr' hi, hX1i, ← hcc]
          · exact Cells.new rfl
          · intro j hij hj hw
            rw [upd_ne (by omega)]
            cases hl : L j with
            | false => rfl
            | true =>
              exfalso
              -- j writes r, and r is made by i: j waits for i
              have hkj : ∃ kj, ks[j]? = some kj ∧ kj.wr j = some r := by
                unfold wrAt at hw
                cases hkj : ks[j]? with
                | none => rw [hkj] at hw; simp at hw
                | some kj => rw [hkj] at hw; exact ⟨kj, rfl, by simpa using hw⟩
              obtain ⟨kj, hkj, hwj⟩ := hkj
              cases kj with
              | st r' =>
                simp at hwj; subst hwj
                rcases (hc.uses j _ hkj r' (by simp [OK.uses])).2 r' hi hwr' with e | ⟨_, e⟩ | ⟨e, _⟩
                · omega
                · have := h.cl j r' hl e; rw [hL] at this; cases this
                · omega
              | a => simp at hwj; omega
              | q _ => simp at hwj
              | no => simp at hwj
        · rcases alive_upd hr with ⟨e, _⟩ | hr
          · exact absurd e hri
          · rw [cn_other (by rw [hwr']; intro e; exact hri (Option.some.inj e).symm)]
            exact (h'.ce r hr).at hb
      | _ => exact h3.elim
    | halt x w1 => exact h3.elim
  | st r =>
    have hwr' : wrAt ks i = some r := hwr
    obtain ⟨h1, hv, h2⟩ := hst X h.g
    rw [if_pos (by rw [wanted_looks (h.looks hc hi ho hA), h1])]
    obtain ⟨hal, he⟩ := h.cont hc hk hL hA (r := r) (by simp [OK.uses])
    have h3 := h2 w h.old (by rw [← he]; exact h.ce r hal)
    rw [← exec_looks hsel (h.looks hc hi ho hA)] at h3
    unfold opF
    generalize (execOp (evF n s) o').run P w = res at h3 ⊢
    cases res with
    | ok nx w1 =>
      cases nx with
      | skip =>
        simp only [writeB] at h3
        obtain ⟨honly, hcell⟩ := h3
        have hXr : w0.heap.size ≤ X r ∨ X r ∈ Bs := by
          rcases alive_lt h.g hB rfl hal with ⟨_, e⟩ | ⟨_, _, _, e, _⟩
          · exact .inl e
          · exact .inr e
        have hlate : ∀ j, i < j → j < ks.length → wrAt ks j = some r → upd L i j = false := by
          intro j hij hj hw
          rw [upd_ne (by omega)]
          cases hl : L j with
          | false => rfl
          | true =>
            exfalso
            rcases (hc.uses i _ hk r (by simp [OK.uses])).2 j hj hw with e | ⟨e, _⟩ | ⟨_, e⟩
            · omega
            · omega
            · have := h.cl j i hl e; rw [hL] at this; cases this
        have hJ : J1 l n w0 Bs ks vs cs s0 d0 X (upd L i) (updS s (dstAt l i) (valAt vs i X)) w1 := by
          refine h.step hc hi hL hA (h.old.only honly hXr) (by rw [honly.size]; exact Nat.le_refl _) (by rw [hisA]; intro e; cases e) ?_
          intro r' hr'
          by_cases hrr : r' = r
          · subst hrr
            rw [cnL_last upd_self hwr' hi hlate]
            exact hcell
          · rcases alive_upd hr' with ⟨_, e⟩ | hr'
            · rw [hisA] at e; cases e
            · rw [cn_other (by rw [hwr']; intro e; exact hrr (Option.some.inj e).symm)]
              exact (h.ce r' hr').same (honly.block _ (alive_ne h.g hB hN hc.le hr' hal hrr)) (by rw [honly.size]; exact Nat.le_refl _)
        have := hfin X _ hJ
        rw [hv] at this
        exact this
      | _ => exact h3.elim
    | halt x w1 => exact h3.elim
end
end

section
/-- the slice value v, made by the call itself in blocks from base on, reads as l -/
def Own {α : Type} (f : α → List Value) (m : Nat) (T : TypeId) (base : Nat) (w : World) (v : Value) (l : List α) : Prop := w.ownsRow base T m v l.length (l.flatMap f)
theorem flat_get {α : Type} (f : α → List Value) (m : Nat) (hf : ∀ x, (f x).length = m) : ∀ (l : List α) (i : Nat) (x : α), l[i]? = some x → ∀ j v, (f x)[j]? = some v → (l.flatMap f)[i * m + j]? = some v
  | [], i, x, h, _, _, _ => by simp at h
  | y :: l, 0, x, h, j, v, hv => by
    simp at h
    subst h
    have hj : j < (f y).length := by
      rcases Nat.lt_or_ge j (f y).length with h | h
      · exact h
      · rw [List.getElem?_eq_none h] at hv; cases hv
    simp only [List.flatMap_cons, Nat.zero_mul, Nat.zero_add]
    rw [List.getElem?_append_left hj]; exact hv
  | y :: l, i + 1, x, h, j, v, hv => by
    simp at h
    simp only [List.flatMap_cons]
    rw [List.getElem?_append_right (by rw [hf]; have : (i + 1) * m = i * m + m := Nat.succ_mul i m; omega)]
    have : (i + 1) * m + j - (f y).length = i * m + j := by rw [hf, Nat.succ_mul]; omega
    rw [this]
    exact flat_get f m hf l i x h j v hv
theorem Own.nil {α : Type} (f : α → List Value) (m : Nat) (T : TypeId) (base : Nat) (w : World) : Own f m T base w (.slice none 0 0) [] := World.ownsRow_nil w base T m
/-- what it is: nil, or a block of its own -/
theorem Own.form {α : Type} {f : α → List Value} {m : Nat} {T : TypeId} {base : Nat} {w : World} {v : Value} {l : List α} (h : Own f m T base w v l) :
    (v = .slice none 0 0 ∧ l = []) ∨ ∃ g cap, v = .slice (some ⟨g, 0, none⟩) l.length cap ∧ base ≤ g ∧ g < w.heap.size := by
  rcases h.2 with ⟨hv, hn⟩ | ⟨g, cap, cur, hv, hb, hg, _⟩
  · exact .inl ⟨hv, List.length_eq_zero_iff.1 hn⟩
  · exact .inr ⟨g, cap, hv, hb, (Array.getElem?_eq_some_iff.1 hg).1⟩
theorem Own.formN {α : Type} {f : α → List Value} {m : Nat} {T : TypeId} {base : Nat} {w : World} {v : Value} {l : List α} (h : Own f m T base w v l) {n : Nat} (hn : l.length = n) :
    (v = .slice none 0 0 ∧ l = [] ∧ n = 0) ∨ ∃ g cap, v = .slice (some ⟨g, 0, none⟩) n cap ∧ base ≤ g ∧ g < w.heap.size ∧ w.ownsRow base T m (.slice (some ⟨g, 0, none⟩) n cap) n (l.flatMap f) := by
  subst hn
  rcases h.form with ⟨hv, hl⟩ | ⟨g, cap, hv, hb, hg⟩
  · exact .inl ⟨hv, hl, by simp [hl]⟩
  · subst hv
    exact .inr ⟨g, cap, rfl, hb, hg, h⟩
theorem Own.of {α : Type} {f : α → List Value} {m : Nat} {T : TypeId} {base : Nat} {w : World} {v : Value} {l : List α} {n : Nat} (hn : l.length = n) {xs : List Value} (hx : xs = l.flatMap f) (h : w.ownsRow base T m v n xs) : Own f m T base w v l := by
  subst hn hx; exact h
theorem Own.rd {α : Type} {f : α → List Value} {m : Nat} (hf : ∀ x, (f x).length = m) {T : TypeId} {base : Nat} {w : World} {v : Value} {l : List α} (h : Own f m T base w v l) :
    ∃ a cap, v = .slice a l.length cap ∧ Rd f m w a l ∧ (∀ b o s, a = some ⟨b, o, s⟩ → base ≤ b) := by
  rcases h.form with ⟨hv, rfl⟩ | ⟨g, cap, rfl, hb, hg⟩
  · exact ⟨none, 0, hv, .inl rfl, fun _ _ _ h => by cases h⟩
  · refine ⟨_, cap, rfl, .inr ⟨g, 0, rfl, hg, ?_⟩, fun _ _ _ h => by cases h; exact hb⟩
    intro i x hi j u hj
    have hfl := flat_get f m hf l i x hi j u hj
    have := World.ownsRow.cellAt h (i * m + j) (by
      rcases Nat.lt_or_ge (i * m + j) (l.flatMap f).length with hlt | hge
      · rw [h.1] at hlt; exact hlt
      · rw [List.getElem?_eq_none hge] at hfl; cases hfl)
    rw [Nat.zero_add, this]; exact hfl
/-- kept while its own block is -/
theorem Own.kept {α : Type} {f : α → List Value} {m : Nat} {T : TypeId} {base : Nat} {w w' : World} {v : Value} {l : List α} (h : Own f m T base w v l) (hk : ∀ g, v.ownBlock = some g → w'.heap[g]? = w.heap[g]?) : Own f m T base w' v l := by
  refine ⟨h.1, ?_⟩
  rcases h.2 with hn | ⟨g, cap, cur, rfl, hb, hg, rest⟩
  · exact .inl hn
  · exact .inr ⟨g, cap, cur, rfl, hb, (hk g rfl).trans hg, rest⟩
theorem Own.at {α : Type} {f : α → List Value} {m : Nat} {T : TypeId} {base : Nat} {w w' : World} {v : Value} {l : List α} (h : Own f m T base w v l) (hb : Below w.heap.size w w') : Own f m T base w' v l :=
  h.kept fun g hg => hb.block g (World.ownsRow.lt h g hg).2
theorem Own.setCell {α : Type} {f : α → List Value} {m : Nat} {T : TypeId} {base : Nat} {w : World} {v : Value} {l : List α} (h : Own f m T base w v l) {a : Addr} (ha : a.block < base) (u : Value) : Own f m T base (w.setCell a u) v l :=
  h.kept fun g hg => by
    have := (World.ownsRow.lt h g hg).1
    exact Below.heap_setCell w a u g (by omega)
theorem Own.snoc {α : Type} {f : α → List Value} {m : Nat} {T : TypeId} {base : Nat} {w : World} {v : Value} {l : List α} {x : α} (h : w.ownsRow base T m v (l.length + 1) (l.flatMap f ++ f x)) : Own f m T base w v (l ++ [x]) := by
  unfold Own; simpa using h
theorem news_at (w : World) (n : Nat) (hn : w.heap.size = n) (cs : Array Value) (T : TypeId) : ∀ j u, cs.toList[j]? = some u → (w.alloc (.cells cs T)).cell? ((⟨n, 0, none⟩ : Addr).add j) = some u := by
  subst hn; exact World.news_of_block (heap_alloc_new w _)
/-- one element, just laid in a block of its own, appended to a list of the call's own: no region that draws -/
theorem append1 {P : Program} {ops : Array Oper} {rest : List Oper} {o : Oper} {a : Act} {Q : Exit → Act → World → Prop} {w0 : World} {cs : Array Value} (N : Nat) (hN : w0.heap.size = N) (hgd : o.guard = none) (s x : Operand) (t : TypeId)
    (ho : o.op = .call { callee := .builtin .append, args := #[s, x], argTypes := #[t, t] })
    (base : Nat) (e : TypeId) (i : TypeInfo) (z : Value) (size bytes : Nat) (ht : P.underlying t = some (.slice e)) (hi : P.info? e = some i) (hz : i.zero = some z)
    (hsize : i.size = size) (hby : i.bytes = bytes) (hzs : z.cells.size = size) (hsz : 0 < size)
    (v : Value) (n : Nat) (xs : List Value) (hs : a.eval s = v) (hown : w0.ownsRow base e size v n xs)
    (c : Nat) (hx : a.eval x = .slice (some ⟨N, 0, none⟩) 1 c) (hl : cs.size = size) (h1 : ∀ u ∈ cs.toList, u.oneCell' = true)
    (h63 : n + 1 ≤ maxLen) (hbytes : (n + 1) * bytes ≤ 140737488355328) (hbase : base ≤ N + 1)
    (h : ∀ g cap w', w'.ownsRow base e size (.slice (some ⟨g, 0, none⟩) (n + 1) cap) (n + 1) (xs ++ cs.toList) → (w0.alloc (.cells cs e)).grownBy w' v.ownBlock → base ≤ g → N < w'.heap.size →
      wpList P ops Q rest (a.put o.dst (.slice (some ⟨g, 0, none⟩) (n + 1) cap)) w') : wpList P ops Q (o :: rest) a (w0.alloc (.cells cs e)) := by
  refine wpList_append_own _ hgd s x t ho base e i z size bytes ht hi hz hsize hby hzs hsz v n xs hs (hown.alloc _) ⟨N, 0, none⟩ 1 c cs.toList hx (by simpa using hl) (news_at _ _ hN _ _) h1 h63 hbytes (by simp; omega) ?_
  intro v' w' ho' hg _
  have hsz' : N < w'.heap.size := by have := hg.size; simp at this; omega
  rcases ho'.2 with ⟨_, h0⟩ | ⟨g, cap, cur, rfl, hb, _⟩
  · omega
  · exact h g cap w' ho' hg hb hsz'
/-- the same, inside a region that draws its order -/
theorem stepAppend1 {P : Program} {ops : Array Oper} {o : Oper} {a : Act} {K : Act → World → Prop} {Q : Exit → Act → World → Prop} {E : Prop} {w0 : World} {cs : Array Value} (N : Nat) (hN : w0.heap.size = N) (hgd : o.guard = none) (s x : Operand) (t : TypeId)
    (ho : o.op = .call { callee := .builtin .append, args := #[s, x], argTypes := #[t, t] })
    (base : Nat) (e : TypeId) (i : TypeInfo) (z : Value) (size bytes : Nat) (ht : P.underlying t = some (.slice e)) (hi : P.info? e = some i) (hz : i.zero = some z)
    (hsize : i.size = size) (hby : i.bytes = bytes) (hzs : z.cells.size = size) (hsz : 0 < size)
    (v : Value) (n : Nat) (xs : List Value) (hs : a.eval s = v) (hown : w0.ownsRow base e size v n xs)
    (c : Nat) (hx : a.eval x = .slice (some ⟨N, 0, none⟩) 1 c) (hl : cs.size = size) (h1 : ∀ u ∈ cs.toList, u.oneCell' = true)
    (h63 : n + 1 ≤ maxLen) (hbytes : (n + 1) * bytes ≤ 140737488355328) (hbase : base ≤ N + 1)
    (h : ∀ g cap w', w'.ownsRow base e size (.slice (some ⟨g, 0, none⟩) (n + 1) cap) (n + 1) (xs ++ cs.toList) → (w0.alloc (.cells cs e)).drew.grownBy w' v.ownBlock → base ≤ g → N < w'.heap.size →
      K (a.put o.dst (.slice (some ⟨g, 0, none⟩) (n + 1) cap)) w') :
    if Region.wanted o (yielded ops a.tmps) = true then Oper.wp P o a (w0.alloc (.cells cs e)).drew K Q else E := by
  refine step_append_lies _ hgd s x t ho base e i z size bytes ht hi hz hsize hby hzs hsz v n xs hs (hown.alloc _).drew ⟨N, 0, none⟩ 1 c cs.toList hx (by simpa using hl) (news_at _ _ hN _ _) h1 (by decide) h63 hbytes (by simp; omega) (N + 1) (by simp [hN]) ?_
  intro g cap w' ho' hg hat _
  have hsz' : N < w'.heap.size := by have := hg.size; simp at this; omega
  have hb : base ≤ g := by
    rcases hat with h | h
    · exact (World.ownsRow.lt hown _ h).1
    · omega
  exact h g cap w' ho' hg hb hsz'
end

section
theorem res_c {P : Program} {fn : Func} {p : Tmp} {ty : TypeId} (h : fn.results = #[.cell p ty]) {tmps : Array Value} {w : World} {ad : Addr} {v : Value} (e : tmps.getD p undef = .pointer (some ad)) (l : (loadVar ty ad).run P w = .ok v w) :
    (results fn tmps).run P w = .ok v w := by
  simp only [Array.getD_eq_getD_getElem?] at *
  simp only [results, h]
  simp [Sem.run_bind, Result.andThen, e, asAddr, l]
theorem res_ct {P : Program} {fn : Func} {p u : Tmp} {ty : TypeId} (h : fn.results = #[.cell p ty, .tmp u]) {tmps : Array Value} {w : World} {ad : Addr} {v x : Value} (e : tmps.getD p undef = .pointer (some ad)) (l : (loadVar ty ad).run P w = .ok v w) (e2 : tmps.getD u undef = x) :
    (results fn tmps).run P w = .ok (.tuple #[v, x]) w := by
  simp only [Array.getD_eq_getD_getElem?] at *
  simp only [results, h]
  simp [Sem.run_bind, Result.andThen, e, asAddr, l, e2]
theorem res_cc {P : Program} {fn : Func} {p p2 : Tmp} {ty ty2 : TypeId} (h : fn.results = #[.cell p ty, .cell p2 ty2]) {tmps : Array Value} {w : World} {ad ad2 : Addr} {v v2 : Value} (e : tmps.getD p undef = .pointer (some ad)) (e2 : tmps.getD p2 undef = .pointer (some ad2))
    (l : (loadVar ty ad).run P w = .ok v w) (l2 : (loadVar ty2 ad2).run P w = .ok v2 w) : (results fn tmps).run P w = .ok (.tuple #[v, v2]) w := by
  simp only [Array.getD_eq_getD_getElem?] at *
  simp only [results, h]
  simp [Sem.run_bind, Result.andThen, e, asAddr, l, e2, l2]
theorem res_cct {P : Program} {fn : Func} {p p2 u : Tmp} {ty ty2 : TypeId} (h : fn.results = #[.cell p ty, .cell p2 ty2, .tmp u]) {tmps : Array Value} {w : World} {ad ad2 : Addr} {v v2 x : Value} (e : tmps.getD p undef = .pointer (some ad)) (e2 : tmps.getD p2 undef = .pointer (some ad2))
    (l : (loadVar ty ad).run P w = .ok v w) (l2 : (loadVar ty2 ad2).run P w = .ok v2 w) (e3 : tmps.getD u undef = x) : (results fn tmps).run P w = .ok (.tuple #[v, v2, x]) w := by
  simp only [Array.getD_eq_getD_getElem?] at *
  simp only [results, h]
  simp [Sem.run_bind, Result.andThen, e, asAddr, l, e2, l2, e3]
theorem res_tct {P : Program} {fn : Func} {u p u2 : Tmp} {ty : TypeId} (h : fn.results = #[.tmp u, .cell p ty, .tmp u2]) {tmps : Array Value} {w : World} {ad : Addr} {v x x2 : Value} (e0 : tmps.getD u undef = x) (e : tmps.getD p undef = .pointer (some ad))
    (l : (loadVar ty ad).run P w = .ok v w) (e2 : tmps.getD u2 undef = x2) : (results fn tmps).run P w = .ok (.tuple #[x, v, x2]) w := by
  simp only [Array.getD_eq_getD_getElem?] at *
  simp only [results, h]
  simp [Sem.run_bind, Result.andThen, e, asAddr, l, e2, e0]
theorem Own.setNe {α : Type} {f : α → List Value} {m : Nat} {T : TypeId} {base : Nat} {w : World} {g n cap : Nat} {l : List α} (h : Own f m T base w (.slice (some ⟨g, 0, none⟩) n cap) l) {a : Addr} (ha : a.block ≠ g) (u : Value) : Own f m T base (w.setCell a u) (.slice (some ⟨g, 0, none⟩) n cap) l :=
  h.kept fun g' hg => by cases hg; exact Below.heap_setCell w a u g (fun e => ha e.symm)
theorem Own.alloc {α : Type} {f : α → List Value} {m : Nat} {T : TypeId} {base : Nat} {w : World} {v : Value} {l : List α} (h : Own f m T base w v l) (o : Obj) : Own f m T base (w.alloc o) v l :=
  h.kept fun g hg => Below.heap_alloc w o g (World.ownsRow.lt h g hg).2
theorem Own.drew {α : Type} {f : α → List Value} {m : Nat} {T : TypeId} {base : Nat} {w : World} {v : Value} {l : List α} (h : Own f m T base w v l) : Own f m T base w.drew v l := h
theorem Own.drewN {α : Type} {f : α → List Value} {m : Nat} {T : TypeId} {base : Nat} {w : World} {v : Value} {l : List α} (h : Own f m T base w v l) (n : Nat) : Own f m T base (w.drewN n) v l := h
/-- a cell behind a store -/
theorem set_at {w : World} {a : Addr} {v u : Value} (h : w.cell? a = some v) (hs : a.spot = none) : (w.setCell a u).cell? a = some u := by
  obtain ⟨b, o, s⟩ := a
  simp at hs
  subst hs
  exact World.cell?_setCell_same' _ _ _ (by rw [h]; rfl)
theorem set_far {w : World} {b o b' o' : Nat} {u : Value} (h : b' ≠ b ∨ o' ≠ o) : (w.setCell ⟨b, o, none⟩ u).cell? ⟨b', o', none⟩ = w.cell? ⟨b', o', none⟩ := by
  apply World.cell?_setCell_other
  intro e
  cases e
  rcases h with h | h <;> exact h rfl
end

section
variable {ds : List Deferred}

section
variable {P : Program} {l : List Oper} {n : Nat} {w0 : World} {Bs rs : List Nat} {K : (Nat → Value) → World → Prop} {ks : List OK} {vs : List (Ad → Value)} {cs : List (Ad → List Value)} {s0 : Nat → Value} {d0 : Nat → List Value}

def J2 (P : Program) (l : List Oper) (n m : Nat) (K : (Nat → Value) → World → Prop) (L : Nat → Bool) (s : Nat → Value) (w : World) : Prop :=
  ∃ k, m ≤ k ∧ k ≤ l.length ∧ (∀ j, L j = decide (j < k)) ∧ ∃ s', (∀ t, t < n → s t = s' t) ∧ listF P l.toArray n K (l.drop k) s' w
def rsOk (ks : List OK) (len nb : Nat) (rs : List Nat) : Bool := rs.all fun r => isAat ks r || (decide (len ≤ r) && decide (r < len + nb))

theorem J1.fin (hc : Chk l (Region.before l.toArray) ks Bs.length) (hrs : rsOk ks l.length Bs.length rs = true)
    (hf : ∀ X, Good ks l.length w0 Bs X → ∀ w, OldB Bs w0 w → (∀ r ∈ rs, Cells w (X r) (cnL ks cs d0 X allT ks.length r)) → listF P l.toArray n K (l.drop ks.length) (frA l vs s0 X ks.length) w)
    {X : Ad} {L : Nat → Bool} {s : Nat → Value} {w : World} (h : J1 l n w0 Bs ks vs cs s0 d0 X L s w) (hL : ∀ j, j < ks.length → L j = true) : J2 P l n ks.length K L s w := by
  refine ⟨ks.length, Nat.le_refl _, hc.le, fun j => ?_, frA l vs s0 X ks.length, fun t ht => ?_, hf X h.g w h.old fun r hr => ?_⟩
  · by_cases hj : j < ks.length
    · rw [hL j hj]; simp [hj]
    · cases hl : L j with
      | false => simp [hj]
      | true => exact absurd (h.lo j hl) hj
  · by_cases hw : ∃ j, j < ks.length ∧ dstAt l j = some t
    · obtain ⟨j, hj, hd⟩ := hw
      rw [h.sl j t (hL j hj) hd]
      exact (frA_at hd ks.length hj fun j' hj' hne hd' => hne (hc.dst j' j t hj' hj hd' hd)).symm
    · have hw' : ∀ j, j < ks.length → dstAt l j ≠ some t := fun j hj hd => hw ⟨j, hj, hd⟩
      rw [frA_un ks.length hw']
      exact h.un t ht fun j hj => hw' j (h.lo j hj)
  · have hal : alive ks l.length Bs.length L r := by
      unfold rsOk at hrs
      rw [List.all_eq_true] at hrs
      have := hrs r hr
      simp only [Bool.or_eq_true, Bool.and_eq_true, decide_eq_true_eq] at this
      rcases this with e | e
      · exact .inl ⟨hL r (isA_lt e), e⟩
      · exact .inr e
    have := h.ce r hal
    rwa [cnL_congr (X' := X) (L' := allT) ks.length fun j hj _ => .inl ⟨hL j hj, rfl, rfl⟩] at this

theorem listF_congr {P : Program} {ops : Array Oper} {n : Nat} {K : (Nat → Value) → World → Prop} {o : Oper} {os : List Oper} {s s' : Nat → Value} {w : World} (h : ∀ t, t < n → s t = s' t) (Kv : Value → World → Prop)
    (hK : ∀ v w', listF P ops n K os (updS s' o.dst v) w' → Kv v w') (hl : listF P ops n K (o :: os) s' w) :
    if Region.wanted o (yielded ops (tmA n s)) then opF P o n s w Kv else Kv undef w := by
  unfold listF at hl
  rw [tmA_congr h]
  split at hl
  · rename_i hw
    rw [if_pos hw]
    unfold opF at hl ⊢
    rw [evF_congr h]
    exact uponF.mono hK hl
  · rename_i hw
    rw [if_neg hw]
    exact hK _ _ hl

theorem upd_agree {n : Nat} {s s' : Nat → Value} (h : ∀ t, t < n → s t = s' t) (d : Option Nat) (v : Value) : ∀ t, t < n → updS s d v t = updS s' d v t := by
  intro t ht
  cases d with
  | none => exact h t ht
  | some d =>
    simp only [updS_some]
    split
    · rfl
    · exact h t ht

theorem invF_of {P : Program} {ops : Array Oper} {n : Nat} {J : (Nat → Bool) → (Nat → Value) → World → Prop} : ∀ (os : List Oper) (i : Nat),
    (∀ j o, os[j]? = some o → ∀ (L : Nat → Bool) (s : Nat → Value) (w : World), L (i + j) = false → (∀ e ∈ o.after.toList, Region.binds .any e = true → L e.on = true) → J L s w →
      (∀ K : Value → World → Prop, (∀ v w', J (upd L (i + j)) (updS s o.dst v) w' → K v w') → if Region.wanted o (yielded ops (tmA n s)) then opF P o n s w K else K undef w)) → invF P ops n J i os
  | [], _, _ => trivial
  | o :: os, i, h => ⟨h 0 o rfl, invF_of os (i + 1) fun j o' ho => by
      have := h (j + 1) o' (by simpa using ho)
      rw [show i + (j + 1) = i + 1 + j by omega] at this
      exact this⟩

theorem regionR_F {id : Nat} {Q : Exit → Act → World → Prop} {s : Nat → Value} {w : World} (Bs : List Nat) (bc : List (List Value)) (rs : List Nat) (ks : List OK) (vs : List (Ad → Value)) (cs : List (Ad → List Value))
    (hm : P.follows .mixedOrders = true) (hb : backB l.toArray = true) (hdn : dstB l.toArray (List.range n) = true) (hchk : chkR l ks Bs.length = true) (hrs : rsOk ks l.length Bs.length rs = true)
    (hN : Bs.Nodup) (hB : ∀ k b, Bs[k]? = some b → Cells w b (bc.getD k []))
    (hw : walkR P ks l.toArray n w.drew Bs rs (fun s w => Q .normal (mkA n s ds) w) 0 l ks vs cs (fun _ => s) (fun _ r => bc.getD (r - l.length) []))
    (hdep : depR l.length (Region.before l.toArray) 0 vs cs) : (Code.region id l.toArray true).wp P Q (mkA n s ds) w := by
  have hc := chk_of hchk
  have hBl : ∀ b ∈ Bs, b < w.drew.heap.size := by
    intro b hb
    obtain ⟨k, hk, rfl⟩ := List.mem_iff_getElem.1 hb
    exact (hB k Bs[k] (by simp [hk])).1
  obtain ⟨g1, g2⟩ := walkR_get (l := l) (ks := ks) (vs := vs) (cs := cs) (s0 := s) (d0 := fun r => bc.getD (r - l.length) []) (kk := ks) ks.length 0 (by omega) hw
  let J : (Nat → Bool) → (Nat → Value) → World → Prop := fun L s' w' => (∃ X, J1 l n w.drew Bs ks vs cs s (fun r => bc.getD (r - l.length) []) X L s' w') ∨ J2 P l n ks.length (fun s w => Q .normal (mkA n s ds) w) L s' w'
  have hstep2 : ∀ (i : Nat) (o : Oper) (L : Nat → Bool) (s' : Nat → Value) (w' : World), l[i]? = some o → L i = false → (∀ j, j < i → L j = true) → J2 P l n ks.length (fun s w => Q .normal (mkA n s ds) w) L s' w' → ∀ Kv : Value → World → Prop, (∀ v w1, J (upd L i) (updS s' o.dst v) w1 → Kv v w1) → if Region.wanted o (yielded l.toArray (tmA n s')) then opF P o n s' w' Kv else Kv undef w' := by
    intro i o L s' w' ho hL hlow ⟨k, hk1, hk2, hk3, s2, hs2, hl2⟩ Kv hK
    have hik : i = k := by
      have h1 := hk3 i
      rw [hL] at h1
      have : ¬ i < k := by simpa using h1.symm
      rcases Nat.lt_or_ge k i with h2 | h2
      · have := hlow k h2
        rw [hk3 k] at this; simp at this
      · omega
    subst hik
    have hil : i < l.length := (List.getElem?_eq_some_iff.1 ho).1
    rw [List.drop_eq_getElem_cons hil] at hl2
    have e : l[i] = o := by rw [List.getElem?_eq_getElem hil] at ho; exact Option.some.inj ho
    rw [e] at hl2
    refine listF_congr hs2 Kv (fun v w1 h => hK v w1 (.inr ⟨i + 1, by omega, by omega, fun j => ?_, updS s2 o.dst v, upd_agree hs2 _ _, h⟩)) hl2
    by_cases hj : j = i
    · subst hj; simp [upd]
    · rw [upd_ne hj, hk3 j]
      by_cases h : j < i
      · simp [h]; omega
      · simp [h]; omega
  refine regionI_F J hm hb hdn ?_ ?_ (invF_of l 0 ?_)
  · -- the start
    let X0 : Ad := fun r => if r < l.length then w.heap.size + r else Bs.getD (r - l.length) 0
    refine .inl ⟨X0, ?_, ⟨rfl, rfl, rfl, Nat.le_refl _, fun _ _ _ => rfl⟩, fun _ h => (by cases h), fun _ _ h => (by cases h), fun _ h => (by cases h), ?_, fun _ _ h => (by cases h), fun d hd _ => if_pos hd⟩
    · refine ⟨fun i hi => ?_, fun i j hi hj hne => ?_, fun k b hk => ?_⟩
      · have := isA_lt hi; have := hc.le
        show w.heap.size ≤ if i < l.length then w.heap.size + i else _
        rw [if_pos (by omega)]; omega
      · have := isA_lt hi; have := isA_lt hj; have := hc.le
        show (if i < l.length then w.heap.size + i else _) ≠ if j < l.length then w.heap.size + j else _
        rw [if_pos (by omega), if_pos (by omega)]; omega
      · show (if l.length + k < l.length then _ else Bs.getD (l.length + k - l.length) 0) = b
        rw [if_neg (by omega), show l.length + k - l.length = k by omega, List.getD_eq_getElem?_getD, hk]; rfl
    · intro r hr
      rcases hr with ⟨h, _⟩ | ⟨h1, h2⟩
      · cases h
      · have hk : r - l.length < Bs.length := by omega
        have e : X0 r = Bs[r - l.length] := by
          show (if r < l.length then _ else Bs.getD (r - l.length) 0) = _
          rw [if_neg (by omega), List.getD_eq_getElem?_getD, List.getElem?_eq_getElem hk]; rfl
        rw [e, cnL_skip (i := 0) ks.length (Nat.zero_le _) fun _ _ _ _ => rfl]
        exact (hB (r - l.length) _ (List.getElem?_eq_getElem hk)).drew
  · -- the end
    intro s' w' hJ
    have hend : J2 P l n ks.length (fun s w => Q .normal (mkA n s ds) w) (fun j => decide (j < l.length)) s' w' := by
      rcases hJ with ⟨X, hJ⟩ | hJ
      · exact hJ.fin hc hrs g2 fun j hj => by have := hc.le; simp; omega
      · exact hJ
    obtain ⟨k, hk1, hk2, hk3, s2, hs2, hl2⟩ := hend
    have : k = l.length := by
      have h1 := hk3 k
      simp only [Nat.lt_irrefl, decide_false, decide_eq_false_iff_not] at h1
      omega
    subst this
    rw [List.drop_length] at hl2
    rw [mkA_congr hs2]
    exact hl2
  · -- an operation
    intro i o ho L s' w' hL hd hJ Kv hK
    rw [Nat.zero_add] at hL
    simp only [Nat.zero_add] at hK
    by_cases him : i < ks.length
    · rcases hJ with ⟨X, hJ⟩ | hJ
      · exact looks_step hc hdep hBl hN (g1 i (Nat.zero_le _) him) hJ ho hL hd Kv fun X v w1 h => hK v w1 (.inl ⟨X, h⟩)
      · obtain ⟨k, hk1, _, hk3, _⟩ := hJ
        rw [hk3 i] at hL
        simp at hL; omega
    · have hil : i < l.length := (List.getElem?_eq_some_iff.1 ho).1
      rcases hJ with ⟨X, hJ⟩ | hJ
      · have hlow : ∀ j, j < i → L j = true := by
          intro j hj
          have ha := hc.tail i j hil (by omega) hj
          obtain ⟨e, he, hb', hor⟩ := hc.anc i j o ho ha
          rcases hor with rfl | hor
          · exact hd e he hb'
          · exact hJ.cl e.on j (hd e he hb') hor
        exact hstep2 i o L s' w' ho hL hlow (hJ.fin hc hrs g2 fun j hj => hlow j (by omega)) Kv hK
      · have hJ' := hJ
        obtain ⟨k, hk1, hk2, hk3, _⟩ := hJ'
        have hlow : ∀ j, j < i → L j = true := by
          intro j hj
          have ha := hc.tail i j hil (by omega) hj
          obtain ⟨e, he, hb', hor⟩ := hc.anc i j o ho ha
          have hon := hd e he hb'
          rcases hor with rfl | hor
          · exact hon
          · rw [hk3] at hon ⊢
            simp only [decide_eq_true_eq] at hon ⊢
            have := hc.lt e.on j (by omega) hor
            omega
        exact hstep2 i o L s' w' ho hL hlow hJ Kv hK
end

/- the walk's steps -/
section
variable {P : Program} {kk : List OK} {ops : Array Oper} {n : Nat} {w0 : World} {Bs rs : List Nat} {K : (Nat → Value) → World → Prop} {i : Nat} {o : Oper} {os : List Oper} {ks : List OK} {v : Ad → Value} {vs : List (Ad → Value)} {c : Ad → List Value} {cs : List (Ad → List Value)} {s : Ad → Nat → Value} {d : Ad → Nat → List Value}

theorem walkR_q {rd : List Nat} (hg : o.guard = none) (h1 : ∀ X, Good kk ops.size w0 Bs X → ∀ w, OldB Bs w0 w → (∀ r ∈ rd, Cells w (X r) (d X r)) → quietB P w (v X) ((execOp (evF n (s X)) o).run P w))
    (h2 : walkR P kk ops n w0 Bs rs K (i + 1) os ks vs cs (fun X => updS (s X) o.dst (v X)) d) : walkR P kk ops n w0 Bs rs K i (o :: os) (.q rd :: ks) (v :: vs) (c :: cs) s d :=
  ⟨fun X hX => ⟨by simp [Region.wanted, hg], h1 X hX⟩, by simpa only [OK.wr_q, updC_none] using h2⟩
theorem walkR_qg {rd : List Nat} {j t : Nat} {b : Bool} (hg : o.guard = some (j, b)) (hd : (ops[j]?).bind (·.dst) = some t) (hn : t < n) (hs : ∀ X, Good kk ops.size w0 Bs X → s X t = .bool b)
    (h1 : ∀ X, Good kk ops.size w0 Bs X → ∀ w, OldB Bs w0 w → (∀ r ∈ rd, Cells w (X r) (d X r)) → quietB P w (v X) ((execOp (evF n (s X)) o).run P w))
    (h2 : walkR P kk ops n w0 Bs rs K (i + 1) os ks vs cs (fun X => updS (s X) o.dst (v X)) d) : walkR P kk ops n w0 Bs rs K i (o :: os) (.q rd :: ks) (v :: vs) (c :: cs) s d :=
  ⟨fun X hX => ⟨by rw [wanted_F hg hd hn (hs X hX)]; simp, h1 X hX⟩, by simpa only [OK.wr_q, updC_none] using h2⟩
theorem walkR_no {j t : Nat} {b b' : Bool} (hg : o.guard = some (j, b)) (hd : (ops[j]?).bind (·.dst) = some t) (hn : t < n) (hs : ∀ X, Good kk ops.size w0 Bs X → s X t = .bool b') (hb : (b' == b) = false)
    (h2 : walkR P kk ops n w0 Bs rs K (i + 1) os ks vs cs (fun X => updS (s X) o.dst undef) d) : walkR P kk ops n w0 Bs rs K i (o :: os) (.no :: ks) ((fun _ => undef) :: vs) (c :: cs) s d :=
  ⟨fun X hX => ⟨by rw [wanted_F hg hd hn (hs X hX)]; exact hb, rfl⟩, by simpa only [OK.wr_no, updC_none] using h2⟩
theorem walkR_nu {j t : Nat} {b : Bool} (hg : o.guard = some (j, b)) (hd : (ops[j]?).bind (·.dst) = some t) (hn : t < n) (hs : ∀ X, Good kk ops.size w0 Bs X → s X t = undef)
    (h2 : walkR P kk ops n w0 Bs rs K (i + 1) os ks vs cs (fun X => updS (s X) o.dst undef) d) : walkR P kk ops n w0 Bs rs K i (o :: os) (.no :: ks) ((fun _ => undef) :: vs) (c :: cs) s d :=
  ⟨fun X hX => ⟨by
    unfold Region.wanted
    rw [hg]
    simp only [yielded, hd, Option.bind_some, mkA_get, hn, if_true, hs X hX]
    rfl, rfl⟩, by simpa only [OK.wr_no, updC_none] using h2⟩
theorem walkR_a (hg : o.guard = none) (h1 : ∀ X, Good kk ops.size w0 Bs X → ∀ w, OldB Bs w0 w → w.heap.size = X i → newB w (v X) (c X) ((execOp (evF n (s X)) o).run P w))
    (h2 : walkR P kk ops n w0 Bs rs K (i + 1) os ks vs cs (fun X => updS (s X) o.dst (v X)) (fun X => updC (d X) (some i) (c X))) : walkR P kk ops n w0 Bs rs K i (o :: os) (.a :: ks) (v :: vs) (c :: cs) s d :=
  ⟨fun X hX => ⟨by simp [Region.wanted, hg], h1 X hX⟩, h2⟩
theorem walkR_st {r : Nat} (hg : o.guard = none) (h1 : ∀ X, Good kk ops.size w0 Bs X → ∀ w, OldB Bs w0 w → Cells w (X r) (d X r) → writeB (X r) w (c X) ((execOp (evF n (s X)) o).run P w))
    (h2 : walkR P kk ops n w0 Bs rs K (i + 1) os ks vs cs (fun X => updS (s X) o.dst undef) (fun X => updC (d X) (some r) (c X))) : walkR P kk ops n w0 Bs rs K i (o :: os) (.st r :: ks) ((fun _ => undef) :: vs) (c :: cs) s d :=
  ⟨fun X hX => ⟨by simp [Region.wanted, hg], rfl, h1 X hX⟩, h2⟩
theorem walkR_nil (h : ∀ X, Good kk ops.size w0 Bs X → ∀ w, OldB Bs w0 w → (∀ r ∈ rs, Cells w (X r) (d X r)) → listF P ops n K os (s X) w) : walkR P kk ops n w0 Bs rs K i os [] [] [] s d := by
  cases os with
  | nil => simpa only [walkR] using h
  | cons o os => simpa only [walkR] using h
theorem depR_cons {len : Nat} {M : Array Nat} (h : ∀ X X' : Ad, (∀ r, (r == i || aB M i r || decide (len ≤ r)) = true → X r = X' r) → v X = v X' ∧ c X = c X') (h2 : depR len M (i + 1) vs cs) : depR len M i (v :: vs) (c :: cs) := ⟨h, h2⟩
theorem depR_nil {len : Nat} {M : Array Nat} : depR len M i [] [] := trivial
theorem bc_nil {w : World} : ∀ (k b : Nat), ([] : List Nat)[k]? = some b → Cells w b (([] : List (List Value)).getD k []) := by
  intro k b h; simp at h
theorem bc_cons {w : World} {B : Nat} {cB : List Value} {bcs : List (List Value)} (h : Cells w B cB) (t : ∀ (k b : Nat), Bs[k]? = some b → Cells w b (bcs.getD k [])) : ∀ (k b : Nat), (B :: Bs)[k]? = some b → Cells w b ((cB :: bcs).getD k []) := by
  intro k b hk
  cases k with
  | zero => simp at hk; subst hk; simpa using h
  | succ k => simpa using t k b (by simpa using hk)
theorem newB_mk {w : World} {u u' : Value} {cc : Array Value} {T : TypeId} {cl : List Value} (h1 : cc.toList = cl) (h2 : u = u') : newB w u' cl (.ok (.value u) (w.alloc (.cells cc T))) := ⟨cc, T, rfl, h1, h2⟩
theorem writeB_mk {w w' : World} {b : Nat} {c' cl : List Value} (h : Cells w' b c') (ho : Only b w w') (hc : c' = cl) : writeB b w cl (.ok .skip w') := ⟨ho, by rw [← hc]; exact h⟩
theorem Only.refl (b : Nat) (w : World) : Only b w w := ⟨rfl, rfl, rfl, rfl, fun _ _ => rfl⟩
theorem Only.set {b o : Nat} {w w' : World} {u : Value} (h : Only b w w') : Only b w (w'.setCell ⟨b, o, none⟩ u) := by
  have hb := (Below.refl b w').setCell (p := ⟨b, o, none⟩) (Nat.le_refl _) u
  refine ⟨hb.os.trans h.os, hb.tape.trans h.tape, hb.output.trans h.output, by simpa using h.size, fun k hk => ?_⟩
  rw [← h.block k hk]
  exact Below.heap_setCell _ _ _ _ hk
theorem OldB.b0 {w w' : World} (h : OldB [] w.drew w') : (∀ b o, b < w.heap.size → w'.cell? ⟨b, o, none⟩ = w.cell? ⟨b, o, none⟩) ∧ (∀ b o, b < w.heap.size → w'.frozen? ⟨b, o, none⟩ = w.frozen? ⟨b, o, none⟩) :=
  ⟨fun b o hb => cellBk (h.block b hb (by simp)), fun b o hb => frozBk (h.block b hb (by simp))⟩
theorem OldB.b1 {w w' : World} {B : Nat} (h : OldB [B] w.drew w') : (∀ b o, b < w.heap.size → ¬ b = B → w'.cell? ⟨b, o, none⟩ = w.cell? ⟨b, o, none⟩) ∧ (∀ b o, b < w.heap.size → ¬ b = B → w'.frozen? ⟨b, o, none⟩ = w.frozen? ⟨b, o, none⟩) :=
  ⟨fun b o hb h1 => cellBk (h.block b hb (by simp [h1])), fun b o hb h1 => frozBk (h.block b hb (by simp [h1]))⟩
theorem OldB.b2 {w w' : World} {B C : Nat} (h : OldB [B, C] w.drew w') : (∀ b o, b < w.heap.size → ¬ b = B → ¬ b = C → w'.cell? ⟨b, o, none⟩ = w.cell? ⟨b, o, none⟩) ∧ (∀ b o, b < w.heap.size → ¬ b = B → ¬ b = C → w'.frozen? ⟨b, o, none⟩ = w.frozen? ⟨b, o, none⟩) :=
  ⟨fun b o hb h1 h2 => cellBk (h.block b hb (by simp [h1, h2])), fun b o hb h1 h2 => frozBk (h.block b hb (by simp [h1, h2]))⟩
theorem OldB.b3 {w w' : World} {B C D : Nat} (h : OldB [B, C, D] w.drew w') : (∀ b o, b < w.heap.size → ¬ b = B → ¬ b = C → ¬ b = D → w'.cell? ⟨b, o, none⟩ = w.cell? ⟨b, o, none⟩) ∧ (∀ b o, b < w.heap.size → ¬ b = B → ¬ b = C → ¬ b = D → w'.frozen? ⟨b, o, none⟩ = w.frozen? ⟨b, o, none⟩) :=
  ⟨fun b o hb h1 h2 h3 => cellBk (h.block b hb (by simp [h1, h2, h3])), fun b o hb h1 h2 h3 => frozBk (h.block b hb (by simp [h1, h2, h3]))⟩
theorem OldB.low {w w' : World} {N : Nat} (h : OldB Bs w.drew w') (hN : N ≤ w.heap.size) (hB : ∀ b ∈ Bs, N ≤ b) : Below N w w' :=
  ⟨h.os, h.tape, h.output, h.size, fun k hk => h.block k (Nat.lt_of_lt_of_le hk hN) (fun hm => by have := hB k hm; omega)⟩
end

/- names for worlds and frames; blocks as lists of cells -/
section
variable {P : Program} {ops : Array Oper} {n : Nat} {K : (Nat → Value) → World → Prop} {l : List Oper} {S : Nat → Value} {w : World}
theorem listF_absw (h : ∀ w', w' = w → listF P ops n K l S w') : listF P ops n K l S w := h w rfl
theorem listF_abs (h : ∀ s', s' = S → listF P ops n K l s' w) : listF P ops n K l S w := h S rfl
theorem wp_absw {c : Code} {Q : Exit → Act → World → Prop} {a : Act} (h : ∀ w', w' = w → c.wp P Q a w') : c.wp P Q a w := h w rfl
theorem Cells.low {w w' : World} {b N : Nat} {l : List Value} (h : Cells w b l) (hb : Below N w w') (hN : b < N) : Cells w' b l := h.same (hb.block b hN) hb.size
theorem Cells.old {w w' : World} {Bs : List Nat} {b : Nat} {l : List Value} (h : Cells w b l) (ho : OldB Bs w.drew w') (hB : b ∉ Bs) : Cells w' b l := h.same (ho.block b h.1 hB) ho.size
theorem Own.toCells {α : Type} {f : α → List Value} {m : Nat} {T : TypeId} {base : Nat} {w : World} {g N cap : Nat} {l : List α} (h : Own f m T base w (.slice (some ⟨g, 0, none⟩) N cap) l) : Cells w g (l.flatMap f) := by
  rcases h.2 with ⟨h1, _⟩ | ⟨g', cap', cur, hv, _, hg, hn, _, hs, ht⟩
  · cases h1
  · cases hv
    refine ⟨(Array.getElem?_eq_some_iff.1 hg).1, fun i v hv => ?_, fun o => by simp [World.frozen?, hg]⟩
    have h2 : cur[i]? = some v := by
      rw [← ht] at hv
      have : i < l.length * m := by
        have := (List.getElem?_eq_some_iff.1 hv).1
        simp at this; omega
      rw [List.getElem?_take_of_lt this] at hv
      simpa using hv
    simp [World.cell?, hg, h2]
end
/-- a block that holds rows -/
theorem Cells.rd {α : Type} {f : α → List Value} {m : Nat} (hf : ∀ x, (f x).length = m) {w : World} {g : Nat} {l : List α} (h : Cells w g (l.flatMap f)) : Rd f m w (some ⟨g, 0, none⟩) l :=
  .inr ⟨g, 0, rfl, h.1, fun i x hi j v hj => by rw [Nat.zero_add]; exact h.2.1 _ _ (flat_get f m hf l i x hi j v hj)⟩
end

section
theorem walkR_ag {P : Program} {kk : List OK} {ops : Array Oper} {n : Nat} {w0 : World} {Bs rs : List Nat} {K : (Nat → Value) → World → Prop} {i : Nat} {o : Oper} {os : List Oper} {ks : List OK} {v : Ad → Value} {c : Ad → List Value} {vs : List (Ad → Value)} {cs : List (Ad → List Value)} {s : Ad → Nat → Value} {d : Ad → Nat → List Value}
    {j t : Nat} {b : Bool} (hg : o.guard = some (j, b)) (hd : (ops[j]?).bind (·.dst) = some t) (hn : t < n) (hs : ∀ X, Good kk ops.size w0 Bs X → s X t = .bool b)
    (h1 : ∀ X, Good kk ops.size w0 Bs X → ∀ w, OldB Bs w0 w → w.heap.size = X i → newB w (v X) (c X) ((execOp (evF n (s X)) o).run P w))
    (h2 : walkR P kk ops n w0 Bs rs K (i + 1) os ks vs cs (fun X => updS (s X) o.dst (v X)) (fun X => updC (d X) (some i) (c X))) : walkR P kk ops n w0 Bs rs K i (o :: os) (.a :: ks) (v :: vs) (c :: cs) s d :=
  ⟨fun X hX => ⟨by rw [wanted_F hg hd hn (hs X hX)]; simp, h1 X hX⟩, h2⟩
end
end

section
set_option linter.all false
open Go.RowKit

section
theorem cell_block {w w' : World} {b o : Nat} (h : w'.heap[b]? = w.heap[b]?) : w'.cell? ⟨b, o, none⟩ = w.cell? ⟨b, o, none⟩ := by
  simp only [World.cell?, h]
theorem frozen_block {w w' : World} {b o : Nat} (h : w'.heap[b]? = w.heap[b]?) : w'.frozen? ⟨b, o, none⟩ = w.frozen? ⟨b, o, none⟩ := by
  simp only [World.frozen?, h]
end

section
theorem Own.rd' {α : Type} {f : α → List Value} {m : Nat} (hf : ∀ x, (f x).length = m) {T : TypeId} {base : Nat} {w : World} {v : Value} {l : List α} (h : Own f m T base w v l) {a : Option Addr} {n c : Nat} (hv : v = .slice a n c) : Rd f m w a l := by
  obtain ⟨a', c', h1, h2, _⟩ := Own.rd hf h
  rw [h1] at hv; cases hv; exact h2
end

section
theorem Cells.kept {w w' : World} {b : Nat} {l : List Value} (h : Cells w b l) (hb : w'.heap[b]? = w.heap[b]?) (hs : w.heap.size ≤ w'.heap.size) : Cells w' b l :=
  ⟨Nat.lt_of_lt_of_le h.1 hs, fun i v hv => (cell_block hb).trans (h.2.1 i v hv), fun o => (frozen_block hb).trans (h.2.2 o)⟩
theorem Rd.block {α : Type} {f : α → List Value} {m : Nat} {w w' : World} {g o : Nat} {l : List α} (h : Rd f m w (some ⟨g, o, none⟩) l) (hb : w'.heap[g]? = w.heap[g]?) (hs : w.heap.size ≤ w'.heap.size) : Rd f m w' (some ⟨g, o, none⟩) l := by
  rcases h with h | ⟨b, off, ha, hlt, hc⟩
  · exact .inl h
  · cases ha
    exact .inr ⟨g, o, rfl, Nat.lt_of_lt_of_le hlt hs, fun i x hi j v hj => (cell_block hb).trans (hc i x hi j v hj)⟩
theorem Own.frozen {α : Type} {f : α → List Value} {m : Nat} {T : TypeId} {base : Nat} {w : World} {g n cap : Nat} {l : List α} (h : Own f m T base w (.slice (some ⟨g, 0, none⟩) n cap) l) : ∀ o, w.frozen? ⟨g, o, none⟩ = false := by
  intro o
  rcases h.2 with ⟨h1, _⟩ | ⟨g', cap', cur, hv, _, hg, _⟩
  · cases h1
  · cases hv
    simp [World.frozen?, hg]
theorem Own.cells0 {α : Type} {f : α → List Value} {m : Nat} (hf : ∀ x, (f x).length = m) {T : TypeId} {base : Nat} {w : World} {g n cap : Nat} {l : List α} (h : Own f m T base w (.slice (some ⟨g, 0, none⟩) n cap) l) : ∀ i x, l[i]? = some x → ∀ j v, (f x)[j]? = some v → w.cell? ⟨g, i * m + j, none⟩ = some v := by
  intro i x hi j v hj
  rcases Own.rd' hf h rfl with h0 | ⟨b, off, he, _, hc⟩
  · rw [h0] at hi; cases hi
  · cases he
    have := hc i x hi j v hj
    rwa [Nat.zero_add] at this
end

section
theorem Cells.conv {w : World} {b : Nat} {l l' : List Value} (h : Cells w b l') (e : l' = l) : Cells w b l := e ▸ h
end

section
/-- where the memory that a slice of the call's own lies in may have changed -/
structure GB (v : Value) (w0 w : World) : Prop where
  os : w.os = w0.os
  tape : w.tape = w0.tape
  output : w.output = w0.output
  size : w0.heap.size ≤ w.heap.size
  block : ∀ k, k < w0.heap.size → some k ≠ v.ownBlock → w.heap[k]? = w0.heap[k]?
theorem GB.of_grown {v : Value} {w0 w1 w : World} (hb : Below w0.heap.size w0 w1) (hg : w1.grownBy w v.ownBlock) : GB v w0 w :=
  ⟨hg.os.trans hb.os, hg.tape.trans hb.tape, hg.output.trans hb.output, Nat.le_trans hb.size hg.size, fun k hk hn => (hg.block k (Nat.lt_of_lt_of_le hk hb.size) hn).trans (hb.block k hk)⟩
theorem GB.cells {v : Value} {w0 w : World} (h : GB v w0 w) {b : Nat} {l : List Value} (k : Cells w0 b l) (hn : some b ≠ v.ownBlock) : Cells w b l := k.same (h.block b k.1 hn) h.size
theorem GB.low {v : Value} {w0 w : World} {N : Nat} (h : GB v w0 w) (hN : N ≤ w0.heap.size) (hv : ∀ k, v.ownBlock = some k → N ≤ k) : Below N w0 w :=
  ⟨h.os, h.tape, h.output, h.size, fun k hk => h.block k (by omega) (fun e => by have := hv k e.symm; omega)⟩
theorem Rd.old {α : Type} {f : α → List Value} {m : Nat} {w w' : World} {Bs : List Nat} {a : Option Addr} {l : List α} (h : Rd f m w a l) (ho : OldB Bs w.drew w') (hn : ∀ b, a = some b → b.block ∉ Bs) : Rd f m w' a l := by
  rcases h with h | ⟨b, off, ha, hlt, hc⟩
  · exact .inl h
  · exact .inr ⟨b, off, ha, Nat.lt_of_lt_of_le hlt ho.size, fun i x hi j v hj => (cellBk (ho.block b hlt (hn _ ha))).trans (hc i x hi j v hj)⟩
theorem Rd.gb {α : Type} {f : α → List Value} {m : Nat} {w w' : World} {v : Value} {a : Option Addr} {l : List α} (h : Rd f m w a l) (ho : GB v w w') (hn : ∀ b, a = some b → some b.block ≠ v.ownBlock) : Rd f m w' a l := by
  rcases h with h | ⟨b, off, ha, hlt, hc⟩
  · exact .inl h
  · exact .inr ⟨b, off, ha, Nat.lt_of_lt_of_le hlt ho.size, fun i x hi j v hj => (cellBk (ho.block b hlt (hn _ ha))).trans (hc i x hi j v hj)⟩
theorem Own.slice {α : Type} {f : α → List Value} {m : Nat} (hf : ∀ x, (f x).length = m) {T : TypeId} {base : Nat} {w : World} {v : Value} {l : List α} (h : Own f m T base w v l) :
    ∃ a c, v = .slice a l.length c ∧ Rd f m w a l ∧ ∀ b, a = some b → base ≤ b.block := by
  rcases Own.formN h (n := l.length) rfl with ⟨rfl, hl0, hk0⟩ | ⟨g, cap, rfl, hg1, hg2, _⟩
  · exact ⟨none, 0, by rw [hk0], by rw [hl0]; exact .inl rfl, fun b hb => by cases hb⟩
  · exact ⟨_, cap, rfl, Own.rd' hf h rfl, fun b hb => by cases hb; exact hg1⟩
theorem Cells.news {w : World} {X : Nat} {l : List Value} (h : Cells w X l) : ∀ j u, l[j]? = some u → w.cell? ((⟨X, 0, none⟩ : Addr).add j) = some u := by
  intro j u hu
  have hadd : (⟨X, 0, none⟩ : Addr).add j = ⟨X, j, none⟩ := by unfold Addr.add; split <;> simp_all
  rw [hadd]; exact h.2.1 j u hu
theorem Rd.setFar {α : Type} {f : α → List Value} {m : Nat} {w : World} {a : Option Addr} {l : List α} {Y o : Nat} {u : Value} (h : Rd f m w a l) (hn : ∀ b, a = some b → b.block ≠ Y) : Rd f m (w.setCell ⟨Y, o, none⟩ u) a l := by
  rcases h with h | ⟨b, off, ha, hlt, hc⟩
  · exact .inl h
  · exact .inr ⟨b, off, ha, by simpa using hlt, fun i x hi j v hj => (World.cell?_setCell_other _ _ _ _ (fun e => by cases e; exact hn _ ha rfl)).trans (hc i x hi j v hj)⟩
end

section
theorem GB.of_below {v : Value} {w w' : World} (h : Below w.heap.size w w') : GB v w w' := ⟨h.os, h.tape, h.output, h.size, fun k hk _ => h.block k hk⟩
theorem GB.below {v : Value} {w0 w w' : World} (h : GB v w0 w) (hb : Below w.heap.size w w') : GB v w0 w' :=
  ⟨hb.os.trans h.os, hb.tape.trans h.tape, hb.output.trans h.output, Nat.le_trans h.size hb.size, fun k hk hn => (hb.block k (Nat.lt_of_lt_of_le hk h.size)).trans (h.block k hk hn)⟩
theorem GB.grown {v : Value} {w0 w w' : World} (h : GB v w0 w) (hg : w.grownBy w' v.ownBlock) : GB v w0 w' :=
  ⟨hg.os.trans h.os, hg.tape.trans h.tape, hg.output.trans h.output, Nat.le_trans h.size hg.size, fun k hk hn => (hg.block k (Nat.lt_of_lt_of_le hk h.size) hn).trans (h.block k hk hn)⟩
theorem wf_of {n : Int} (h1 : -9223372036854775808 ≤ n) (h2 : n ≤ 9223372036854775807) : (Lit.int .i64 n).wf = true := by
  have := Go.wf_wrap .i64 n
  rwa [IntWalk.i64_in _ (by omega)] at this
end

section
theorem Own.base {α : Type} {f : α → List Value} {m : Nat} {T : TypeId} {base base' : Nat} {w : World} {v : Value} {l : List α} (h : Own f m T base w v l) (hb : base' ≤ base) : Own f m T base' w v l := by
  refine ⟨h.1, ?_⟩
  rcases h.2 with hn | ⟨g, cap, cur, hv, hg, rest⟩
  · exact .inl hn
  · exact .inr ⟨g, cap, cur, hv, by omega, rest⟩
end

section
theorem Rd.flat' {α : Type} {f : α → List Value} {m : Nat} (hf : ∀ x, (f x).length = m) {w : World} {b off : Nat} : ∀ {l : List α}, (∀ i x, l[i]? = some x → ∀ j v, (f x)[j]? = some v → w.cell? ⟨b, off + i * m + j, none⟩ = some v) → ∀ j u, (l.flatMap f)[j]? = some u → w.cell? ((⟨b, off, none⟩ : Addr).add j) = some u := by
  intro l h j u hu
  have hadd : (⟨b, off, none⟩ : Addr).add j = ⟨b, off + j, none⟩ := by unfold Addr.add; split <;> simp_all
  rw [hadd]
  clear hadd
  induction l generalizing off j with
  | nil => simp at hu
  | cons x l ih =>
    simp only [List.flatMap_cons] at hu
    by_cases hj : j < m
    · rw [List.getElem?_append_left (by rw [hf]; exact hj)] at hu
      have := h 0 x rfl j u hu
      simpa using this
    · rw [List.getElem?_append_right (by rw [hf]; omega), hf] at hu
      have := ih (off := off + m) (fun i y hi j' v hv => by
        have := h (i + 1) y hi j' v hv
        rw [Nat.succ_mul] at this
        rw [show off + m + i * m + j' = off + (i * m + m) + j' by omega]; exact this) (j - m) hu
      rw [show off + j = off + m + (j - m) by omega]; exact this
theorem flat_len' {α : Type} {f : α → List Value} {m : Nat} (hf : ∀ x, (f x).length = m) : ∀ l : List α, (l.flatMap f).length = l.length * m
  | [] => by simp
  | x :: l => by simp only [List.flatMap_cons, List.length_append, flat_len' hf l, List.length_cons, hf, Nat.succ_mul]; omega
end

section
/-- two values own no block together -/
def Apart (u v : Value) : Prop := ∀ k, u.ownBlock = some k → v.ownBlock ≠ some k
theorem Apart.symm {u v : Value} (h : Apart u v) : Apart v u := fun k hk he => h k he hk

section
variable {P : Program} (w : World)
theorem run_append_at (base : Nat) (t ty e : TypeId) (i : TypeInfo) (z : Value) (size bytes : Nat) (ht : P.underlying t = some (.slice e)) (hi : P.info? e = some i) (hz : i.zero = some z)
    (hsize : i.size = size) (hby : i.bytes = bytes) (hzs : z.cells.size = size) (hsz : 0 < size) (v : Value) (n : Nat) (xs : List Value) (hown : w.ownsRow base e size v n xs)
    (a : Addr) (m c : Nat) (news : List Value) (hl : news.length = m * size) (hnews : ∀ j u, news[j]? = some u → w.cell? (a.add j) = some u) (h1 : ∀ u ∈ news, u.oneCell' = true)
    (h63 : n + m ≤ maxLen) (hbytes : (n + m) * bytes ≤ 140737488355328) (hbase : base ≤ w.heap.size) :
    ∃ v' w', (Builtin.append_ #[t, t] ty #[v, .slice (some a) m c]).run P w = .ok v' w' ∧ w'.ownsRow base e size v' (n + m) (xs ++ news) ∧ w.grownBy w' v.ownBlock ∧ (v'.ownBlock = v.ownBlock ∨ v'.ownBlock = some w.heap.size) := by
  obtain ⟨v', w', hr, h2, h3, _⟩ := run_append_own (P := P) w base t ty e i z size bytes ht hi hz hsize hby hzs hsz v n xs hown a m c news hl hnews h1 h63 hbytes hbase
  refine ⟨v', w', hr, h2, h3, ?_⟩
  subst hsize
  subst hby
  have hsmall : n + m ≤ 9223372036854775807 := by simp only [maxLen] at h63; omega
  rcases hown.2 with ⟨rfl, rfl⟩ | ⟨g, cap, cur, rfl, hbg, hg, hnc, hcm, hcs, htake⟩
  · by_cases hm : m = 0
    · subst hm
      have hn : news = [] := List.eq_nil_of_length_eq_zero (by simpa using hl)
      subst hn
      have : (Builtin.append_ #[t, t] ty #[.slice none 0 0, .slice (some a) 0 c]).run P w = .ok (.slice none 0 0) w := by
        simp [Builtin.append_, run_underlying ht, sizeOf, typeInfo, hi, Builtin.lenOf, Builtin.firstCells, loadCells, loadCellsFrom]
      rw [this] at hr
      cases hr
      exact .inl rfl
    · have hx : xs = [] := List.eq_nil_of_length_eq_zero (by simpa using hown.1)
      have h := run_append_nil (P := P) w t ty e i z ht hi hz a m c news hl hnews (by omega) (by omega) (by have hb := hbytes; simp only [Nat.zero_add] at hb; omega)
      rw [h] at hr
      cases hr
      exact .inr rfl
  · by_cases hroom : n + m ≤ cap
    · obtain ⟨w2, h, _, _⟩ := run_append_fits (P := P) w base t ty e i i.size ht hi rfl g n cap xs hown a m c news hl hnews h1 hroom
      rw [h] at hr
      cases hr
      exact .inl rfl
    · have holds : ∀ j u, xs[j]? = some u → w.cell? ((⟨g, 0, none⟩ : Addr).add j) = some u := hown.cells (g := g) rfl
      have h := run_append_grow (P := P) w t ty e i z ht hi hz ⟨g, 0, none⟩ n cap xs hown.1 holds a m c news hl hnews (by omega) (by omega) (growslice_fits (by omega) hbytes)
      rw [h] at hr
      cases hr
      exact .inr rfl
theorem run_append_none (base : Nat) (t ty e : TypeId) (i : TypeInfo) (size : Nat) (ht : P.underlying t = some (.slice e)) (hi : P.info? e = some i)
    (v : Value) (n : Nat) (xs : List Value) (hown : w.ownsRow base e size v n xs) (c : Nat) :
    (Builtin.append_ #[t, t] ty #[v, .slice none 0 c]).run P w = .ok v w := by
  rcases hown.2 with ⟨rfl, rfl⟩ | ⟨g, cap, cur, rfl, _, _, hnc, _⟩
  · simp [Builtin.append_, run_underlying ht, sizeOf, typeInfo, hi, Builtin.lenOf, Builtin.firstCells]
  · simp [Builtin.append_, run_underlying ht, sizeOf, typeInfo, hi, Builtin.lenOf, Builtin.firstCells, hnc, storeCells]
end

theorem Rd.flatAt {α : Type} {f : α → List Value} {m : Nat} (hf : ∀ x, (f x).length = m) {w : World} {b off : Nat} : ∀ {l : List α}, (∀ i x, l[i]? = some x → ∀ j v, (f x)[j]? = some v → w.cell? ⟨b, off + i * m + j, none⟩ = some v) → ∀ j u, (l.flatMap f)[j]? = some u → w.cell? ((⟨b, off, none⟩ : Addr).add j) = some u
  | [], _, j, u, h => by simp at h
  | y :: l, hc, j, u, h => by
    have hadd : ∀ j, (⟨b, off, none⟩ : Addr).add j = ⟨b, off + j, none⟩ := by intro j; unfold Addr.add; split <;> simp_all
    rw [hadd]
    simp only [List.flatMap_cons] at h
    rcases Nat.lt_or_ge j (f y).length with hj | hj
    · rw [List.getElem?_append_left hj] at h
      have := hc 0 y rfl j u h
      simpa using this
    · rw [List.getElem?_append_right hj] at h
      have := Rd.flatAt (b := b) (off := off + m) hf (l := l) (fun i x hi k v hv => by
        have := hc (i + 1) x (by simpa using hi) k v hv
        rw [show off + m + i * m + k = off + (i + 1) * m + k by rw [Nat.add_mul]; omega]; exact this) (j - (f y).length) u h
      have hadd2 : ∀ j, (⟨b, off + m, none⟩ : Addr).add j = ⟨b, off + m + j, none⟩ := by intro j; unfold Addr.add; split <;> simp_all
      rw [hadd2] at this
      rw [hf] at this hj
      rw [show off + j = off + m + (j - m) by omega]; exact this

section
variable {P : Program} {o : Oper} {n d : Nat} {s : Nat → Value} {w : World} {K' : Value → World → Prop} {α : Type} {f : α → List Value} {m : Nat}
/-- append(v, l...): v the call's own -/
theorem opF_app (hd : o.dst = some d) (hn : d < n) (x y : Operand) (t : TypeId) (ho : o.op = .call { callee := .builtin .append, args := #[x, y], argTypes := #[t, t] })
    (e : TypeId) (i : TypeInfo) (z : Value) (bytes : Nat) (ht : P.underlying t = some (.slice e)) (hi : P.info? e = some i) (hz : i.zero = some z) (hsize : i.size = m) (hby : i.bytes = bytes) (hzs : z.cells.size = m) (hsz : 0 < m)
    (hf : ∀ x, (f x).length = m) (hone : ∀ x, ∀ u ∈ f x, u.oneCell' = true) (base : Nat) (v : Value) (l l2 : List α) (a : Option Addr) (c : Nat) (hx : evF n s x = v) (hy : evF n s y = .slice a l2.length c) (hown : Own f m e base w v l) (hrd : Rd f m w a l2)
    (h63 : l.length + l2.length ≤ maxLen) (hbytes : (l.length + l2.length) * bytes ≤ 140737488355328) (hbase : base ≤ w.heap.size)
    (h : ∀ v' w', Own f m e base w' v' (l ++ l2) → w.grownBy w' v.ownBlock → (v'.ownBlock = v.ownBlock ∨ v'.ownBlock = some w.heap.size) → K' v' w') : opF P o n s w K' := by
  have hfl : ∀ l : List α, (l.flatMap f).length = l.length * m := by
    intro l
    induction l with
    | nil => simp
    | cons x l ih => simp only [List.flatMap_cons, List.length_append, hf, ih, List.length_cons, Nat.add_mul]; omega
  have fin : ∀ v' w', w'.ownsRow base e m v' (l.length + l2.length) (l.flatMap f ++ l2.flatMap f) → Own f m e base w' v' (l ++ l2) := by
    intro v' w' h2
    unfold Own
    rw [List.length_append, List.flatMap_append]; exact h2
  have key : ∃ v' w', (Builtin.append_ #[t, t] o.type #[v, .slice a l2.length c]).run P w = .ok v' w' ∧ Own f m e base w' v' (l ++ l2) ∧ w.grownBy w' v.ownBlock ∧ (v'.ownBlock = v.ownBlock ∨ v'.ownBlock = some w.heap.size) := by
    rcases hrd with rfl | ⟨b, off, rfl, hlt, hc⟩
    · cases a with
      | none =>
        refine ⟨v, w, run_append_none w base t o.type e i m ht hi v l.length (l.flatMap f) hown c, by simpa using hown, ⟨rfl, rfl, rfl, Nat.le_refl _, fun _ _ _ => rfl⟩, .inl rfl⟩
      | some ad =>
        obtain ⟨v', w', hr, h2, h3, h4⟩ := run_append_at (P := P) w base t o.type e i z m bytes ht hi hz hsize hby hzs hsz v l.length (l.flatMap f) hown ad 0 c [] (by simp) (fun j u hj => by simp at hj) (fun u hu => by simp at hu) (by simpa using h63) (by simpa using hbytes) hbase
        exact ⟨v', w', by simpa using hr, fin _ _ (by simpa using h2), h3, h4⟩
    · obtain ⟨v', w', hr, h2, h3, h4⟩ := run_append_at (P := P) w base t o.type e i z m bytes ht hi hz hsize hby hzs hsz v l.length (l.flatMap f) hown ⟨b, off, none⟩ l2.length c (l2.flatMap f) (hfl l2) (Rd.flatAt hf hc)
        (fun u hu => by obtain ⟨x, _, hux⟩ := List.mem_flatMap.1 hu; exact hone x u hux) h63 hbytes hbase
      exact ⟨v', w', hr, fin _ _ h2, h3, h4⟩
  obtain ⟨v', w', hr, h2, h3, h4⟩ := key
  refine opF_of_wp hd hn (fun K Q hK => ?_)
  unfold Oper.wp execOp
  simp only [ho, resolve, invoke, builtin, Sem.run_bind, Sem.run_pure, Result.andThen_ok, List.map_toArray, List.map_cons, List.map_nil, mkA_eval, hx, hy, hr]
  exact hK _ _ (h v' w' h2 h3 h4)

theorem Own.grown {T : TypeId} {base : Nat} {w' : World} {u v : Value} {l : List α} (h : Own f m T base w u l) (hg : w.grownBy w' v.ownBlock) (ha : Apart u v) : Own f m T base w' u l :=
  h.kept fun g hgu => hg.block g (World.ownsRow.lt h g hgu).2 (fun e => ha g hgu e.symm)
theorem Own.lit {T : TypeId} {base : Nat} {cs : Array Value} {l : List α} (hb : base ≤ w.heap.size) (hm : l.length ≤ maxLen) (hs : cs.toList = l.flatMap f) (hf : ∀ x, (f x).length = m) : Own f m T base (w.alloc (.cells cs T)) (.slice (some ⟨w.heap.size, 0, none⟩) l.length l.length) l := by
  have hfl : (l.flatMap f).length = l.length * m := by
    clear hm hs
    induction l with
    | nil => simp
    | cons x l ih => simp only [List.flatMap_cons, List.length_append, hf, ih, List.length_cons, Nat.add_mul]; omega
  unfold Own
  rw [← hs]
  exact World.ownsRow_lit w cs l.length hb hm (by rw [← Array.length_toList, hs, hfl])
theorem Apart.new {T : TypeId} {base : Nat} {u : Value} {l : List α} (h : Own f m T base w u l) (k c : Nat) : Apart u (.slice (some ⟨w.heap.size, 0, none⟩) k c) := by
  intro g hg he
  have := (World.ownsRow.lt h g hg).2
  simp only [Value.ownBlock, Option.some.injEq] at he
  omega
/-- what append yields lies apart from what lay apart from what it was given -/
theorem Apart.app {T : TypeId} {base : Nat} {u v v' : Value} {l : List α} (h : Own f m T base w u l) (ha : Apart u v) (hv : v'.ownBlock = v.ownBlock ∨ v'.ownBlock = some w.heap.size) : Apart u v' := by
  intro g hg he
  rcases hv with e | e
  · exact ha g hg (by rw [← e]; exact he)
  · rw [e] at he
    have := (World.ownsRow.lt h g hg).2
    simp only [Option.some.injEq] at he
    omega
theorem Cells.grown {w' : World} {b : Nat} {c : List Value} {v : Value} (h : Cells w b c) (hg : w.grownBy w' v.ownBlock) (hn : v.ownBlock ≠ some b) : Cells w' b c := h.same (hg.block b h.1 (fun e => hn e.symm)) hg.size
theorem Rd.grown {w' : World} {a : Option Addr} {l : List α} {v : Value} (h : Rd f m w a l) (hg : w.grownBy w' v.ownBlock) (hn : l ≠ [] → ∀ b, a = some b → v.ownBlock ≠ some b.block) : Rd f m w' a l := by
  by_cases hl : l = []
  · exact .inl hl
  rcases h with h | ⟨b, off, ha, hlt, hc⟩
  · exact .inl h
  · exact .inr ⟨b, off, ha, Nat.lt_of_lt_of_le hlt hg.size, fun i x hi j u hj => (cellBk (hg.block b hlt (fun e => hn hl _ ha e.symm))).trans (hc i x hi j u hj)⟩
theorem Rd.far {a : Option Addr} {l : List α} {Y k : Nat} {u : Value} (h : Rd f m w a l) (hn : l ≠ [] → ∀ b, a = some b → b.block ≠ Y) : Rd f m (w.setCell ⟨Y, k, none⟩ u) a l := by
  by_cases hl : l = []
  · exact .inl hl
  rcases h with h | ⟨b, off, ha, hlt, hc⟩
  · exact .inl h
  · exact .inr ⟨b, off, ha, by simpa using hlt, fun i x hi j v hj => (World.cell?_setCell_other _ _ _ _ (fun e => by cases e; exact hn hl _ ha rfl)).trans (hc i x hi j v hj)⟩
theorem Rd.lt {a : Option Addr} {l : List α} (h : Rd f m w a l) (hl : l ≠ []) : ∀ b, a = some b → b.block < w.heap.size := by
  rcases h with h | ⟨b, off, ha, hlt, hc⟩
  · exact absurd h hl
  · intro c hc; rw [ha] at hc; cases hc; exact hlt
theorem low_grown {w0 w' : World} {N : Nat} {v : Value} (h : Below N w0 w) (hg : w.grownBy w' v.ownBlock) (hs : N ≤ w.heap.size) (hv : ∀ k, v.ownBlock = some k → N ≤ k) : Below N w0 w' :=
  h.trans ⟨hg.os, hg.tape, hg.output, hg.size, fun k hk => hg.block k (by omega) (fun e => by have := hv k e.symm; omega)⟩
theorem Own.setFar' {T : TypeId} {base Y k : Nat} {v : Value} {l : List α} (h : Own f m T base w v l) (hY : Y < base) (u : Value) : Own f m T base (w.setCell ⟨Y, k, none⟩ u) v l :=
  h.kept fun g hg => Below.heap_setCell _ _ _ _ (fun e => by have := (World.ownsRow.lt h g hg).1; simp at e; omega)
theorem Own.far {T : TypeId} {base b : Nat} {v : Value} {l : List α} (h : Own f m T base w v l) (hb : b < base) : v.ownBlock ≠ some b := fun e => by have := (World.ownsRow.lt h b e).1; omega
end
end

section
theorem cut_F {P : Program} {id : Nat} {l : Array Oper} {b : Bool} {n : Nat} {ds : List Deferred} {Q : Exit → Act → World → Prop} {s0 : Nat → Value} {w0 : World} (K : (Nat → Value) → World → Prop)
    (h : (Code.region id l b).wp P (fun e a w => e = .normal ∧ ∃ s, a = mkA n s ds ∧ K s w) (mkA n s0 ds) w0) (hK : ∀ s w, K s w → Q .normal (mkA n s ds) w) : (Code.region id l b).wp P Q (mkA n s0 ds) w0 :=
  wp_mono h (by rintro e a w ⟨rfl, s, rfl, hk⟩; exact hK s w hk)
theorem Rd.two {α : Type} {f : α → List Value} {m : Nat} {w : World} {a : Option Addr} {l : List α} {Y o o' : Nat} {u u' : Value} (h : Rd f m w a l) (hn : ∀ b, a = some b → b.block ≠ Y) : Rd f m ((w.setCell ⟨Y, o, none⟩ u).setCell ⟨Y, o', none⟩ u') a l :=
  (Rd.setFar h hn).setFar hn
end

section
theorem cut_any {P : Program} {c : Code} {n : Nat} {ds : List Deferred} {Q : Exit → Act → World → Prop} {s0 : Nat → Value} {w0 : World} (K : (Nat → Value) → World → Prop)
    (h : c.wp P (fun e a w => e = .normal ∧ ∃ s, a = mkA n s ds ∧ K s w) (mkA n s0 ds) w0) (hK : ∀ s w, K s w → Q .normal (mkA n s ds) w) : c.wp P Q (mkA n s0 ds) w0 :=
  wp_mono h (by rintro e a w ⟨rfl, s, rfl, hk⟩; exact hK s w hk)
end

section
theorem enterM_F {P : Program} {f : FuncId} {fn : Func} {c : Code} {args : Array Value} {w : World} {R : Ending → World → Prop} {n : Nat} (hf : P.funcs[f]? = some fn) (hb : fn.body = some c) (hn : fn.ntmps = n) (ha : args.size ≤ n)
    (h : ∀ s : Nat → Value, (∀ i, i < args.size → s i = args[i]?.getD undef) → c.wp P (bodyPostM Fence.wide 0 P fn R) (mkA n s []) w) : Calls P f args w R := by
  refine callsIn_wide.1 (callsIn_of_wp_marks (n := 0) hf hb trivial (wpIn_wide.2 ?_))
  rw [hn]
  have hmk := mkA_of { tmps := args ++ Array.replicate (n - args.size) undef, defers := [] } rfl
  have hsz : (args ++ Array.replicate (n - args.size) undef).size = n := by simp; omega
  rw [hmk]
  simp only [hsz]
  refine h _ fun i hi => ?_
  simp [Array.getD_eq_getD_getElem?, Array.getElem?_append_left, hi]
theorem retM_F {P : Program} {fn : Func} {R : Ending → World → Prop} {n : Nat} {s : Nat → Value} {w : World} (v : Value) (hr : (results fn (tmA n s)).run P w = .ok v w) (h : R (.returned v) w) : bodyPostM Fence.wide 0 P fn R .ret (mkA n s []) w := ⟨v, hr, h⟩
theorem retMark_F {P : Program} {fn : Func} {R : Ending → World → Prop} {n : Nat} {s : Nat → Value} {w : World} {D : Nat} (v : Value) (hD : w.heap[D]? = some (.deferred (some [])))
    (hr : (results fn (tmA n s)).run P (w.putObj D (.deferred none)) = .ok v (w.putObj D (.deferred none))) (h : R (.returned v) (w.putObj D (.deferred none))) : bodyPostM Fence.wide 0 P fn R .ret (mkA n s [{ target := .collected D, args := #[] }]) w :=
  ⟨by simp, .inl ⟨_, _, rfl, run_takeDeferred hD, v, hr, h⟩⟩
/- a world in which one block was put -/
theorem bel_put {N X : Nat} {w0 w : World} {o : Obj} (h : Below N w0 w) (hX : N ≤ X) : Below N w0 (w.putObj X o) :=
  ⟨h.os, h.tape, h.output, by rw [World.putObj_size]; exact h.size, fun k hk => by rw [World.putObj_heap_other (by omega)]; exact h.block k hk⟩
theorem Cells.put {w : World} {b X : Nat} {l : List Value} {o : Obj} (h : Cells w b l) (hn : b ≠ X) : Cells (w.putObj X o) b l := h.kept (World.putObj_heap_other hn) (by rw [World.putObj_size]; exact Nat.le_refl _)
theorem Rd.put {α : Type} {f : α → List Value} {m : Nat} {w : World} {X : Nat} {o : Obj} {a : Option Addr} {l : List α} (h : Rd f m w a l) (hn : ∀ b, a = some b → b.block ≠ X) : Rd f m (w.putObj X o) a l := by
  rcases h with h | ⟨b, off, ha, hlt, hc⟩
  · exact .inl h
  · exact .inr ⟨b, off, ha, by rw [World.putObj_size]; exact hlt, fun i x hi j v hj => (cell_block (World.putObj_heap_other (hn _ ha))).trans (hc i x hi j v hj)⟩
theorem zip1 {α β : Type} (k : α) (v : β) : (#[k].zip #[v]) = #[(k, v)] := by simp [Array.zip]
theorem foldl1 {α β : Type} (f : β → α → β) (b : β) (x : α) : Array.foldl f b #[x] 0 (#[x] : Array α).size = f b x := by simp
theorem Own.cap {α : Type} {f : α → List Value} {m : Nat} {T : TypeId} {base : Nat} {w : World} {a : Option Addr} {n c : Nat} {l : List α} (h : Own f m T base w (.slice a n c) l) : l.length ≤ c := by
  rcases h.2 with ⟨hv, hn⟩ | ⟨g, cap, cur, hv, _, _, hc, _⟩
  · omega
  · cases hv; exact hc
end

section
/-- the loop's own two blocks: the rounds' deferred calls (none), and the record behind them -/
def LoopAt (W : World) (l : Nat) (r : Loop) : Prop := W.heap[l + 1]? = some (.loop r) ∧ W.heap[l]? = some (.deferred (some []))
theorem LoopAt.put {W : World} {l : Nat} {r r' : Loop} (h : LoopAt W l r) : LoopAt (W.putObj (l + 1) (.loop r')) l r' :=
  ⟨World.putObj_heap_same (Array.getElem?_eq_some_iff.1 h.1).1, (World.putObj_heap_other (by omega)).trans h.2⟩

theorem wp_range_j {P : Program} {α : Type} {g : Operand} {ps : Array Tmp} {assign body : Code} {Q : Exit → Act → World → Prop} {a : Act} {w : World} {gf : Nat} {lb : Array Value} (enc : α → Value)
    (hg : a.eval g = .func (.func gf) #[] lb) (eg : ∀ args w, (callFunc gf args).run P w = .ok (.enter gf args) w) (hps : ps.size = 1)
    (J : List α → World → Prop) (M : List α → α → World → Prop) (Fin : List α → Prop)
    (hJ : ∀ pre W r r', J pre W → LoopAt W w.heap.size r → J pre (W.putObj (w.heap.size + 1) (.loop r')))
    (h0 : ∀ r, J [] ((w.alloc (.deferred (some []))).alloc (.loop r)))
    (hiter : ∀ (r : Loop) (W : World), J [] W → LoopAt W w.heap.size r →
      (∀ pre x W1, M pre x W1 → LoopAt W1 w.heap.size r → YieldAt Fence.wide 0 P (w.heap.size + 1) #[enc x] W1 fun e W' => e = .returned (.bool true) ∧ J (pre ++ [x]) W' ∧ LoopAt W' w.heap.size r) →
      Calls P gf (#[.func (.yield (w.heap.size + 1)) #[] #[]] ++ lb) W fun e W' => (∃ v, e = .returned v) ∧ ∃ xs, J xs W' ∧ Fin xs ∧ LoopAt W' w.heap.size r)
    (hround : ∀ pre x W r, M pre x W → LoopAt W w.heap.size r →
      assign.wpIn (Fence.wide.inRound (w.heap.size + 1)) 0 P (Exit.then (fun a₁ W₁ => LoopAt W₁ w.heap.size r ∧ ∀ r', body.wpIn (Fence.wide.inRound (w.heap.size + 1)) 0 P (fun e _ W' => e = .normal ∧ J (pre ++ [x]) W' ∧ LoopAt W' w.heap.size r') a₁ (W₁.putObj (w.heap.size + 1) (.loop r'))) (fun _ _ _ => False))
        { tmps := (ps.zip #[enc x]).foldl (fun t (p, v) => t.setIfInBounds p v) a.tmps, defers := [] } W)
    (hdone : ∀ xs W, J xs W → Fin xs → W.heap[w.heap.size]? = some (.deferred (some [])) → Q .normal { a with defers := { target := .collected w.heap.size, args := #[] } :: a.defers } W) :
    (Code.rangeFunc g ps assign body).wp P Q a w := by
  refine (wpIn_wide (n := 0)).1 (wpIn_rangeFunc ?_)
  intro fn hfn
  let rec0 : Loop := { state := .ready, pending := none, fn := fn, tmps := a.tmps, params := ps, assign := assign, body := body, defers := w.heap.size }
  let W1 : World := (w.alloc (.deferred (some []))).alloc (.loop rec0)
  have hL1 : LoopAt W1 w.heap.size rec0 := by
    refine ⟨?_, ?_⟩
    · have := World.alloc_heap_new (w.alloc (.deferred (some []))) (.loop rec0)
      rwa [World.size_alloc] at this
    · exact (Below.heap_alloc _ _ _ (by simp)).trans (World.alloc_heap_new w _)
  refine ⟨w.heap.size + 1, [{ target := .collected w.heap.size, args := #[] }], W1, { target := .fn (.func gf) lb, args := #[.func (.yield (w.heap.size + 1)) #[] #[]] }, W1, gf,
    #[.func (.yield (w.heap.size + 1)) #[] #[]] ++ lb, W1, run_enterLoop_outer _ _ _ _ _, ?_, fun _ _ => trivial, ?_, fun h => (by simp [Fence.wide] at h), ?_⟩
  · simp only [resolve, hg]
    simp [go_sem]
  · simp [invoke, go_sem, eg]
  · refine callsIn_wide.2 ((hiter rec0 W1 (h0 rec0) hL1 ?_).mono ?_)
    · -- a round
      intro pre x W hm hl
      refine ⟨fn, _, assign, body, run_yield (P := P) (args := #[enc x]) hl.1 (by show _ = ps.size; rw [hps]; rfl), roundIn_of_wpIn trivial ?_⟩
      refine wpIn_mono (hround pre x W rec0 hm hl) ?_
      intro e a1 W2 h
      cases e with
      | normal =>
        obtain ⟨hl2, hb⟩ := h
        refine ⟨_, run_beginRound hl2.1 rfl, wpIn_mono (hb _) ?_⟩
        rintro e a3 W3 ⟨rfl, hj3, hl3⟩
        exact ⟨_, _, run_endRound none hl3.1, rfl, hJ _ _ _ _ hj3 hl3, hl3.put⟩
      | exit id => exact h
      | goto t => exact h
      | ret => exact h
      | panic ch => exact h
      | outgrown => exact h
    · -- behind the iterator
      rintro e W2 ⟨⟨v, rfl⟩, xs, hj, hf, hl⟩
      refine ⟨none, _, run_endLoop (P := P) hl.1 (by show LoopState.ready ≠ LoopState.busy; decide), hdone xs _ (hJ _ _ _ _ hj hl) hf ((World.putObj_heap_other (by omega)).trans hl.2)⟩
end

section
variable {ds : List Deferred}

def Fw (ρ : Option Nat) : Fence := { Fence.wide with round := ρ }
theorem Fw_none : Fw none = Fence.wide := rfl
theorem Fw_some (l : Nat) : Fw (some l) = Fence.wide.inRound l := rfl
theorem callsIn_Fw {ρ : Option Nat} {n : Nat} {P : Program} {f : FuncId} {args : Array Value} {w : World} {R : Ending → World → Prop} (h : Calls P f args w R) : CallsIn (Fw ρ) n P f args w R := by
  have h2 : CallsIn Fence.wide n P f args w R := callsIn_wide.2 h
  exact h2

section
variable {P : Program} {n m : Nat} {ρ : Option Nat} {o : Oper} {s : Nat → Value} {w : World} {K : Act → World → Prop} {Q : Exit → Act → World → Prop} {ops : Array Oper}

theorem semAt_any (hd : ∀ c, o.op ≠ .defer c) (e : Operand → Value) : o.semAt ρ e = execOp e o := by
  cases ρ with
  | none => unfold Oper.semAt; cases o.op <;> rfl
  | some l => exact Oper.semAt_some l e o hd

theorem opF_in (hd : ∀ c, o.op ≠ .defer c) (h : opF P o n s w fun v w' => K (mkA n (updS s o.dst v) ds) w') : o.wpIn (Fw ρ) m P (mkA n s ds) w K Q := by
  refine ⟨fun _ _ => trivial, ?_⟩
  show o.uponIn (Fw ρ) m P (mkA n s ds) K Q ((o.semAt ρ (mkA n s ds).eval).run P w)
  rw [semAt_any hd, mkA_eval]
  unfold opF at h
  generalize (execOp (evF n s) o).run P w = r at *
  cases r with
  | ok nx w' =>
    cases nx with
    | value v => simp only [uponF] at h; rw [Oper.uponIn_value, mkA_put]; exact h
    | skip => simp only [uponF] at h; rw [Oper.uponIn_skip, mkA_put]; exact h
    | enter f args =>
      simp only [uponF] at h
      rw [Oper.uponIn_enter]
      refine ⟨fun h => (by simp [Fw, Fence.wide] at h), callsIn_Fw (h.mono ?_)⟩
      rintro e w'' ⟨v, rfl, hk⟩
      show K ((mkA n s ds).put o.dst v) w''
      rw [mkA_put]; exact hk
    | row r args =>
      simp only [uponF] at h
      refine ⟨fun h => (by simp [Fw, Fence.wide] at h), ?_⟩
      intro c cs _
      obtain ⟨v, w'', hk, hs⟩ := h c cs
      exact ⟨v, w'', by show K ((mkA n s ds).put o.dst v) w''; rw [mkA_put]; exact hk, stepsIn_wide.2 hs⟩
    | _ => exact (h : False).elim
  | halt x w' => exact (h : False).elim

def noDefer (l : List Oper) : Bool := l.all fun o => match o.op with | .defer _ => false | _ => true
theorem listF_in : ∀ (l : List Oper) (s : Nat → Value) (w : World), noDefer l = true → listF P ops n (fun s w => Q .normal (mkA n s ds) w) l s w → wpListIn (Fw ρ) m P ops Q l (mkA n s ds) w
  | [], _, _, _, h => h
  | o :: os, s, w, hd, h => by
    have hd1 : ∀ c, o.op ≠ .defer c := by
      intro c e
      unfold noDefer at hd
      simp only [List.all_cons, Bool.and_eq_true, e] at hd
      exact absurd hd.1 (by decide)
    have hd2 : noDefer os = true := by
      unfold noDefer at hd ⊢
      simp only [List.all_cons, Bool.and_eq_true] at hd
      exact hd.2
    unfold listF at h
    unfold wpListIn
    split at h
    · rename_i hw
      rw [if_pos (show Region.wanted o (yielded ops (mkA n s ds).tmps) = true from hw)]
      refine opF_in hd1 ?_
      exact uponF.mono (fun v w' h' => listF_in os _ _ hd2 h') h
    · rename_i hw
      rw [if_neg (show ¬ Region.wanted o (yielded ops (mkA n s ds).tmps) = true from hw), mkA_put]
      exact ⟨fun _ _ => trivial, listF_in os _ _ hd2 h⟩
theorem region_FI {id : Nat} {l : List Oper} (hd : noDefer l = true) (h : listF P l.toArray n (fun s w => Q .normal (mkA n s ds) w) l s w) : (Code.region id l.toArray false).wpIn (Fw ρ) m P Q (mkA n s ds) w :=
  wpIn_region_lit (listF_in l s w hd h)

/-- a call of yield in a region in the order of the text -/
theorem yield_in {ops : Array Oper} {os : List Oper} {l d : Nat} {v : Value} {R : Ending → World → Prop} (hg : o.guard = none) (hd : ∀ c, o.op ≠ .defer c) (hdst : o.dst = some d)
    (hr : (execOp (evF n s) o).run P w = (Instr.yield l #[v]).run P w) (hy : YieldAt Fence.wide 0 P l #[v] w R)
    (hk : ∀ e w', R e w' → ∃ x, e = .returned x ∧ wpListIn (Fw none) 0 P ops Q os (mkA n (updS s (some d) x) ds) w') : wpListIn (Fw none) 0 P ops Q (o :: os) (mkA n s ds) w := by
  obtain ⟨fn, tmps, assign, body, h1, h2⟩ := hy
  unfold wpListIn
  rw [if_pos (by simp [Region.wanted, hg])]
  refine ⟨fun _ _ => trivial, ?_⟩
  show o.uponIn (Fw none) 0 P (mkA n s ds) _ Q ((o.semAt none (mkA n s ds).eval).run P w)
  rw [semAt_any hd, mkA_eval, hr, h1, Oper.uponIn_round]
  refine ⟨fun h => (by simp [Fw, Fence.wide] at h), RoundIn.mono (R := R) ?_ ?_⟩
  · exact h2
  · intro e w' hR
    obtain ⟨x, rfl, hx⟩ := hk e w' hR
    show wpListIn (Fw none) 0 P ops Q os ((mkA n s ds).put o.dst x) w'
    rw [hdst, mkA_put]; exact hx
/-- operations ahead of it -/
theorem listF_then {ops : Array Oper} {l2 : List Oper} (Q : Exit → Act → World → Prop) : ∀ (l1 : List Oper) (s : Nat → Value) (w : World), noDefer l1 = true → listF P ops n (fun s w => wpListIn (Fw none) m P ops Q l2 (mkA n s ds) w) l1 s w → wpListIn (Fw none) m P ops Q (l1 ++ l2) (mkA n s ds) w
  | [], _, _, _, h => h
  | o :: os, s, w, hd, h => by
    have hd1 : ∀ c, o.op ≠ .defer c := by
      intro c e
      unfold noDefer at hd
      simp only [List.all_cons, Bool.and_eq_true, e] at hd
      exact absurd hd.1 (by decide)
    have hd2 : noDefer os = true := by
      unfold noDefer at hd ⊢
      simp only [List.all_cons, Bool.and_eq_true] at hd
      exact hd.2
    unfold listF at h
    show wpListIn (Fw none) m P ops Q (o :: (os ++ l2)) (mkA n s ds) w
    unfold wpListIn
    split at h
    · rename_i hw
      rw [if_pos (show Region.wanted o (yielded ops (mkA n s ds).tmps) = true from hw)]
      refine opF_in hd1 ?_
      exact uponF.mono (fun v w' h' => listF_then Q os _ _ hd2 h') h
    · rename_i hw
      rw [if_neg (show ¬ Region.wanted o (yielded ops (mkA n s ds).tmps) = true from hw), mkA_put]
      exact ⟨fun _ _ => trivial, listF_then Q os _ _ hd2 h⟩
theorem region_yield {id k : Nat} {l : List Oper} (hd : noDefer (l.take k) = true) (h : listF P l.toArray n (fun s w => wpListIn (Fw none) 0 P l.toArray Q (l.drop k) (mkA n s ds) w) (l.take k) s w) : (Code.region id l.toArray false).wp P Q (mkA n s ds) w := by
  refine (wpIn_wide (n := 0)).1 (wpIn_region_lit ?_)
  have := listF_then (m := 0) (ops := l.toArray) (l2 := l.drop k) Q (l.take k) s w hd h
  rwa [List.take_append_drop] at this
end
end

section
theorem LoopAt.at {W W' : World} {l : Nat} {r : Loop} (h : LoopAt W l r) (hb : Below W.heap.size W W') : LoopAt W' l r :=
  ⟨(hb.block _ (Array.getElem?_eq_some_iff.1 h.1).1).trans h.1, (hb.block _ (Array.getElem?_eq_some_iff.1 h.2).1).trans h.2⟩
end
end


end Go.Proofs.YtigehmghcafblaaGreat
