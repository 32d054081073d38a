/- General lemmas on memory; a walk whose frame is a function of the slot. -/
import Derived.Test.YtigehmghcafblaaGreatRows
import Derived.WalkKit
import Derived.WalkSpells
import Derived.WalkLawsBesides
import Derived.Deep.QuietTactic
import Derived.BigQuiet
import Derived.Deep.AppendLies
import Derived.StillTail
set_option linter.all false
namespace Go.Proofs.YtigehmghcafblaaGreat

section
set_option linter.all false
open Go.RowKit

section
theorem hid {p : Prop} (h : p) : Hid p := h

/-- the slice at a reads in w as the list l, each element the cells f x, m of them -/
def Rd {α : Type} (f : α → List Value) (m : Nat) (w : World) (a : Option Addr) (l : List α) : Prop :=
  l = [] ∨ ∃ b off, a = some ⟨b, off, none⟩ ∧ b < w.heap.size ∧
    ∀ i x, l[i]? = some x → ∀ j v, (f x)[j]? = some v → w.cell? ⟨b, off + i * m + j, none⟩ = some v

theorem Rd.nil {α : Type} (f : α → List Value) (m : Nat) (w : World) (a : Option Addr) : Rd f m w a [] := .inl rfl

/-- what was read is still read where old memory is kept -/
theorem Rd.at {α : Type} {f : α → List Value} {m : Nat} {w w' : World} {a : Option Addr} {l : List α} (h : Rd f m w a l) (hb : Below w.heap.size w w') : Rd f m w' a l := by
  rcases h with h | ⟨b, off, ha, hlt, hc⟩
  · exact .inl h
  · exact .inr ⟨b, off, ha, Nat.lt_of_lt_of_le hlt hb.size, fun i x hi j v hj => by rw [hb.cell (p := ⟨b, _, none⟩) hlt]; exact hc i x hi j v hj⟩

theorem Rd.ne {α : Type} {f : α → List Value} {m : Nat} {w : World} {a : Option Addr} {l : List α} (h : Rd f m w a l) {k : Nat} (hk : k < l.length) :
    ∃ b off, a = some ⟨b, off, none⟩ ∧ b < w.heap.size ∧ ∀ j v, (f l[k])[j]? = some v → w.cell? ⟨b, off + k * m + j, none⟩ = some v := by
  rcases h with h | ⟨b, off, ha, hlt, hc⟩
  · simp [h] at hk
  · exact ⟨b, off, ha, hlt, fun j v hj => hc k _ (List.getElem?_eq_getElem hk) j v hj⟩

/-- old cells and old marks, after a call that left old memory alone -/
theorem bcell {B : Nat} {W w1 : World} (hb : Below B W w1) : (∀ b o, b < B → w1.cell? ⟨b, o, none⟩ = W.cell? ⟨b, o, none⟩) ∧ (∀ b o, b < B → w1.frozen? ⟨b, o, none⟩ = W.frozen? ⟨b, o, none⟩) :=
  ⟨fun b o h => hb.cell (p := ⟨b, o, none⟩) h, fun b o h => hb.frozen (p := ⟨b, o, none⟩) h⟩

theorem below_alloc1 (w : World) (o : Obj) : Below w.heap.size w (w.alloc o) := (Below.refl _ _).alloc (Nat.le_refl _) _

theorem ret_bool {a b : Bool} (h : a = b) : Ending.returned (.bool a) = .returned (.bool b) := by rw [h]
theorem ret_int {k : IntKind} {a b : Int} (h : a = b) : Ending.returned (.int k a) = .returned (.int k b) := by rw [h]
end

section
def upd (L : Nat → Bool) (i : Nat) : Nat → Bool := fun j => if j = i then true else L j
def updS (s : Nat → Value) (d : Option Nat) (v : Value) : Nat → Value := match d with | some d => fun j => if j = d then v else s j | none => s
def setAll (a : Act) : List Nat → (Nat → Value) → Act
  | [], _ => a
  | d :: ds, s => (setAll a ds s).put (some d) (s d)

theorem setAll_get (a : Act) (s : Nat → Value) : ∀ (ds : List Nat) (k : Nat), (setAll a ds s).tmps[k]? = if k ∈ ds ∧ k < a.tmps.size then some (s k) else a.tmps[k]?
  | [], k => by simp [setAll]
  | d :: ds, k => by
    have hsz : ∀ ds, (setAll a ds s).tmps.size = a.tmps.size := by
      intro ds; induction ds with
      | nil => rfl
      | cons x xs ih => simp [setAll, Act.put, ih]
    have ih := setAll_get a s ds k
    simp only [setAll, Act.put, Array.getElem?_setIfInBounds, hsz, ih, List.mem_cons]
    by_cases h : d = k
    · subst h
      by_cases h2 : d < a.tmps.size
      · simp [h2]
      · simp [h2]
    · have h' : ¬ k = d := fun e => h e.symm
      simp [h, h']
theorem setAll_defers (a : Act) (s : Nat → Value) : ∀ ds : List Nat, (setAll a ds s).defers = a.defers
  | [] => rfl
  | d :: ds => by simp [setAll, Act.put, setAll_defers a s ds]
theorem Act.ext' {a b : Act} (h : a.tmps = b.tmps) (h2 : a.defers = b.defers) : a = b := by
  cases a; cases b; simp at h h2; subst h h2; rfl

theorem setAll_put (a : Act) (s : Nat → Value) (ds : List Nat) (d : Nat) (v : Value) (hd : d ∈ ds) : (setAll a ds s).put (some d) v = setAll a ds (updS s (some d) v) := by
  apply Act.ext'
  · apply Array.ext_getElem?
    intro k
    have hsz : ∀ ds, (setAll a ds s).tmps.size = a.tmps.size := by
      intro ds; induction ds with
      | nil => rfl
      | cons x xs ih => simp [setAll, Act.put, ih]
    rw [setAll_get]
    simp only [Act.put, Array.getElem?_setIfInBounds, hsz, setAll_get, updS]
    by_cases h : d = k
    · subst h; simp [hd]
      split <;> simp_all
    · have h' : ¬ k = d := fun e => h e.symm
      simp [h, h']
  · simp [setAll_defers, Act.put]

theorem setAll_self (a : Act) : ∀ ds : List Nat, setAll a ds (fun d => a.tmps.getD d undef) = a
  | ds => by
    apply Act.ext'
    · apply Array.ext_getElem?
      intro k
      rw [setAll_get]
      by_cases h : k ∈ ds ∧ k < a.tmps.size
      · rw [if_pos h]; simp [Array.getD_eq_getD_getElem?, h.2]
      · rw [if_neg h]
    · exact setAll_defers _ _ _

/-- what is asked of each operation -/
def invSteps (P : Program) (ops : Array Oper) (Q : Exit → Act → World → Prop) (a0 : Act) (ds : List Nat) (J : (Nat → Bool) → (Nat → Value) → World → Prop) : Nat → List Oper → Prop
  | _, [] => True
  | i, o :: os => (∀ (L : Nat → Bool) (s : Nat → Value) (w : World), L i = false → (∀ e ∈ o.after.toList, Region.binds .any e = true → L e.on = true) → J L s w →
      (∀ K : Act → World → Prop, (∀ v w', J (upd L i) (updS s o.dst v) w' → K ((setAll a0 ds s).put o.dst v) w') →
        if Region.wanted o (yielded ops (setAll a0 ds s).tmps) then o.wp P (setAll a0 ds s) w K Q else K ((setAll a0 ds s).put o.dst undef) w)) ∧ invSteps P ops Q a0 ds J (i + 1) os

theorem invSteps_get {P : Program} {ops : Array Oper} {Q : Exit → Act → World → Prop} {a0 : Act} {ds : List Nat} {J : (Nat → Bool) → (Nat → Value) → World → Prop} :
    ∀ (l : List Oper) (k i : Nat) (o : Oper), invSteps P ops Q a0 ds J k l → l[i]? = some o → (∀ (L : Nat → Bool) (s : Nat → Value) (w : World), L (k + i) = false → (∀ e ∈ o.after.toList, Region.binds .any e = true → L e.on = true) → J L s w →
      (∀ K : Act → World → Prop, (∀ v w', J (upd L (k + i)) (updS s o.dst v) w' → K ((setAll a0 ds s).put o.dst v) w') →
        if Region.wanted o (yielded ops (setAll a0 ds s).tmps) then o.wp P (setAll a0 ds s) w K Q else K ((setAll a0 ds s).put o.dst undef) w))
  | [], _, _, _, _, h => by simp at h
  | x :: l, k, 0, o, h, e => by
    simp at e; subst e; exact h.1
  | x :: l, k, i + 1, o, h, e => by
    have := invSteps_get l (k + 1) i o h.2 (by simpa using e)
    rw [show k + (i + 1) = k + 1 + i by omega]; exact this

def backB (ops : Array Oper) : Bool := (List.range ops.size).all fun i => ((ops[i]?).map fun o => o.after.all fun e => !Region.binds .any e || decide (e.on < i)).getD true
def dstB (ops : Array Oper) (ds : List Nat) : Bool := ops.all fun o => match o.dst with | some d => ds.contains d | none => true

theorem inv_any {P : Program} {ops : Array Oper} {Q : Exit → Act → World → Prop} {a0 : Act} {ds : List Nat} {J : (Nat → Bool) → (Nat → Value) → World → Prop}
    (hb : backB ops = true) (hd : dstB ops ds = true)
    (hs : invSteps P ops Q a0 ds J 0 ops.toList) (he : ∀ s w, J (fun j => decide (j < ops.size)) s w → Q .normal (setAll a0 ds s) w) :
    ∀ (fuel : Nat) (listed : Array Bool) (s : Nat → Value) (w : World), listed.size = ops.size → J (fun j => listed.getD j false) s w →
      (∀ j, j < ops.size → listed.getD j false = true) ∨ ((List.range ops.size).countP fun j => !listed.getD j false) ≤ fuel → wpAny P .any ops Q fuel listed (setAll a0 ds s) w := by
  have allOf : ∀ listed : Array Bool, listed.size = ops.size → Region.ready .any ops listed = [] → ∀ j, j < ops.size → listed.getD j false = true := by
    intro listed hsz hr j
    induction j using Nat.strongRecOn with
    | _ j ih =>
      intro hj
      cases hl : listed.getD j false with
      | true => rfl
      | false =>
        exfalso
        unfold Region.ready at hr
        rw [List.filter_eq_nil_iff] at hr
        have := hr j (by simpa using hj)
        apply this
        have hjl : j < listed.size := by omega
        have h1 : listed.getD j true = false := by simpa [Array.getD_eq_getD_getElem?, hjl] using hl
        rw [h1]
        simp only [Bool.not_false, Bool.true_and]
        unfold backB at hb
        rw [List.all_eq_true] at hb
        have hbj := hb j (by simpa using hj)
        simp only [Array.getElem?_eq_getElem hj, Option.map_some, Option.getD_some, Array.all_eq_true] at hbj ⊢
        intro k hk
        have hk1 := hbj k hk
        cases hbk : Region.binds .any ops[j].after[k] with
        | false => rfl
        | true =>
          have hlt : ops[j].after[k].on < j := by simpa [hbk] using hk1
          rw [ih _ hlt (by omega)]
          rfl
  have hfin : ∀ listed s w, listed.size = ops.size → J (fun j => listed.getD j false) s w → Region.ready .any ops listed = [] → Q .normal (setAll a0 ds s) w := by
    intro listed s w hsz hJ hr
    apply he
    have : (fun j => listed.getD j false) = fun j => decide (j < ops.size) := by
      funext j
      by_cases hj : j < ops.size
      · rw [allOf listed hsz hr j hj]; simp [hj]
      · have : ¬ j < listed.size := by omega
        simp [Array.getD_eq_getD_getElem?, hj, this]
    rw [this] at hJ; exact hJ
  intro fuel
  induction fuel with
  | zero =>
    intro listed s w hsz hJ hc
    have hall : ∀ j, j < ops.size → listed.getD j false = true := by
      rcases hc with h | h
      · exact h
      · intro j hj
        have h0 : ((List.range ops.size).countP fun j => !listed.getD j false) = 0 := by omega
        rw [List.countP_eq_zero] at h0
        have := h0 j (by simpa using hj)
        simpa using this
    have hr : Region.ready .any ops listed = [] := by
      unfold Region.ready
      rw [List.filter_eq_nil_iff]
      intro j hj
      simp at hj
      have := hall j hj
      have hjl : j < listed.size := by omega
      have h1 : listed.getD j true = true := by simpa [Array.getD_eq_getD_getElem?, hjl] using this
      simp [h1]
    exact ⟨hr, hfin listed s w hsz hJ hr⟩
  | succ fuel ih =>
    intro listed s w hsz hJ hc
    refine ⟨hfin listed s w hsz hJ, ?_⟩
    intro i hi
    unfold Region.ready at hi
    rw [List.mem_filter] at hi
    obtain ⟨hir, hi2⟩ := hi
    simp at hir
    rw [Bool.and_eq_true] at hi2
    obtain ⟨hi3, hi4⟩ := hi2
    have hil : i < listed.size := by omega
    have hL : listed.getD i false = false := by
      have : listed.getD i true = false := by simpa using hi3
      simpa [Array.getD_eq_getD_getElem?, hil] using this
    have ho : ops[i]? = some ops[i] := Array.getElem?_eq_getElem hir
    have hst := invSteps_get ops.toList 0 i ops[i] hs (by simpa using ho)
    simp only [Nat.zero_add] at hst
    rw [ho] at hi4
    simp only [Option.map_some, Option.getD_some, Array.all_eq_true] at hi4
    have hst2 := hst (fun j => listed.getD j false) s w hL (by
      intro e hem hbi
      obtain ⟨k, hk, rfl⟩ := List.mem_iff_getElem.1 hem
      have := hi4 k (by simpa using hk)
      simp at hbi
      simpa [hbi] using this) hJ (wpAny P .any ops Q fuel (listed.setIfInBounds i true)) (by
        intro v w' hJ'
        have hput : (setAll a0 ds s).put ops[i].dst v = setAll a0 ds (updS s ops[i].dst v) := by
          cases hdst : ops[i].dst with
          | none => rfl
          | some d =>
            apply setAll_put
            unfold dstB at hd
            rw [Array.all_eq_true] at hd
            have := hd i hir
            rw [hdst] at this
            simpa using this
        rw [hput]
        apply ih
        · simpa using hsz
        · have : (fun j => (listed.setIfInBounds i true).getD j false) = upd (fun j => listed.getD j false) i := by
            funext j
            simp only [upd, Array.getD_eq_getD_getElem?, Array.getElem?_setIfInBounds]
            by_cases h : i = j
            · subst h; simp [hil]
            · have h' : ¬ j = i := fun e => h e.symm
              simp [h, h']
          rw [this]; exact hJ'
        · right
          rcases hc with h | h
          · rw [h i hir] at hL; cases hL
          · have hlt : ((List.range ops.size).countP fun j => !(listed.setIfInBounds i true).getD j false) < ((List.range ops.size).countP fun j => !listed.getD j false) := by
              have hmono : ∀ l : List Nat, l.Nodup → i ∈ l → (l.countP fun j => !(listed.setIfInBounds i true).getD j false) + 1 = l.countP fun j => !listed.getD j false := by
                intro l
                induction l with
                | nil => intro _ h; cases h
                | cons x xs ihx =>
                  intro hn hm
                  rw [List.nodup_cons] at hn
                  have hxi : ∀ y, y ≠ i → (listed.setIfInBounds i true).getD y false = listed.getD y false := by
                    intro y hy
                    simp only [Array.getD_eq_getD_getElem?, Array.getElem?_setIfInBounds]
                    have h' : ¬ i = y := fun e => hy e.symm
                    simp [h']
                  rw [List.countP_cons, List.countP_cons]
                  by_cases hx : x = i
                  · subst hx
                    have hsame : (xs.countP fun j => !(listed.setIfInBounds x true).getD j false) = xs.countP fun j => !listed.getD j false := by
                      apply List.countP_congr
                      intro y hy
                      have : y ≠ x := fun e => hn.1 (e ▸ hy)
                      rw [hxi y this]
                    have h1 : (listed.setIfInBounds x true).getD x false = true := by simp [Array.getD_eq_getD_getElem?, hil]
                    rw [hsame, h1, hL]; simp
                  · have := ihx hn.2 (by rcases List.mem_cons.1 hm with h | h; exact absurd h.symm hx; exact h)
                    rw [hxi x hx]; omega
              have := hmono (List.range ops.size) List.nodup_range (by simpa using hir)
              omega
            omega)
    unfold wpOp
    rw [ho]
    simp only []
    split
    · rename_i hw; rw [if_pos hw] at hst2; exact .inl hst2
    · rename_i hw; rw [if_neg hw] at hst2; exact hst2

theorem wp_region_inv {P : Program} {id : Nat} {l : List Oper} {Q : Exit → Act → World → Prop} {a : Act} {w : World} (ds : List Nat) (J : (Nat → Bool) → (Nat → Value) → World → Prop)
    (hm : P.follows .mixedOrders = true) (hb : backB l.toArray = true) (hd : dstB l.toArray ds = true)
    (h0 : J (fun _ => false) (fun d => a.tmps.getD d undef) w.drew)
    (he : ∀ s w, J (fun j => decide (j < l.length)) s w → Q .normal (setAll a ds s) w)
    (hs : invSteps P l.toArray Q a ds J 0 l) : (Code.region id l.toArray true).wp P Q a w := by
  apply wp_region_any hm
  have := inv_any (P := P) (ops := l.toArray) (Q := Q) (a0 := a) (ds := ds) (J := J) hb hd (by simpa using hs) (by simpa using he) l.toArray.size (Array.replicate l.toArray.size false) (fun d => a.tmps.getD d undef) w.drew (by simp)
    (by
      have : (fun j => (Array.replicate l.toArray.size false).getD j false) = fun _ => false := by
        funext j
        simp only [Array.getD_eq_getD_getElem?, Array.getElem?_replicate]
        split <;> rfl
      rw [this]; exact h0)
    (.inr (Nat.le_trans List.countP_le_length (by simp)))
  rw [setAll_self] at this
  exact this

theorem len2 {α : Type} {l : List α} (h : l.length = 2) : ∃ a b, l = [a, b] := match l, h with | [a, b], _ => ⟨a, b, rfl⟩
theorem len3 {α : Type} {l : List α} (h : l.length = 3) : ∃ a b c, l = [a, b, c] := match l, h with | [a, b, c], _ => ⟨a, b, c, rfl⟩
theorem len4 {α : Type} {l : List α} (h : l.length = 4) : ∃ a b c d, l = [a, b, c, d] := match l, h with | [a, b, c, d], _ => ⟨a, b, c, d, rfl⟩
theorem len5 {α : Type} {l : List α} (h : l.length = 5) : ∃ a b c d e, l = [a, b, c, d, e] := match l, h with | [a, b, c, d, e], _ => ⟨a, b, c, d, e, rfl⟩
/-- a variable's block of m cells, made by the call itself from block N on; where C holds its cells are c -/
def Box (N m : Nat) (w : World) (p : Value) (C : Prop) (c : List Value) : Prop :=
  ∃ X, ∃ l : List Value, p = .pointer (some ⟨X, 0, none⟩) ∧ N ≤ X ∧ X < w.heap.size ∧ l.length = m ∧ (∀ i v, l[i]? = some v → w.cell? ⟨X, i, none⟩ = some v) ∧ (∀ o, w.frozen? ⟨X, o, none⟩ = false) ∧ (C → l = c)
theorem Box.at {N m : Nat} {w w' : World} {p : Value} {C C' : Prop} {c : List Value} (h : Box N m w p C c) (hb : Below w.heap.size w w') (hC : C' → C) : Box N m w' p C' c := by
  obtain ⟨X, l, hp, h1, h2, h3, h4, h5, h6⟩ := h
  obtain ⟨e1, e2⟩ := bcell hb
  exact ⟨X, l, hp, h1, Nat.lt_of_lt_of_le h2 hb.size, h3, fun i v hv => by rw [e1 _ _ h2]; exact h4 i v hv, fun o => by rw [e2 _ _ h2]; exact h5 o, fun hc => h6 (hC hc)⟩
theorem Box.far {N m : Nat} {w w' : World} {p : Value} {C C' : Prop} {c : List Value} {Y : Nat} (h : Box N m w p C c) (hY : p ≠ .pointer (some ⟨Y, 0, none⟩)) (hc : ∀ b o, b ≠ Y → w'.cell? ⟨b, o, none⟩ = w.cell? ⟨b, o, none⟩) (hf : ∀ b o, b ≠ Y → w'.frozen? ⟨b, o, none⟩ = w.frozen? ⟨b, o, none⟩) (hs : w.heap.size ≤ w'.heap.size) (hC : C' → C) : Box N m w' p C' c := by
  obtain ⟨X, l, hp, h1, h2, h3, h4, h5, h6⟩ := h
  have hX : X ≠ Y := fun e => hY (by rw [hp, e])
  exact ⟨X, l, hp, h1, Nat.lt_of_lt_of_le h2 hs, h3, fun i v hv => by rw [hc _ _ hX]; exact h4 i v hv, fun o => by rw [hf _ _ hX]; exact h5 o, fun hc => h6 (hC hc)⟩
theorem Box.new {N m : Nat} {w : World} {cs : Array Value} {T : TypeId} {C : Prop} {c : List Value} (hN : N ≤ w.heap.size) (hm : cs.size = m) (hC : C → cs.toList = c) : Box N m (w.alloc (.cells cs T)) (.pointer (some ⟨w.heap.size, 0, none⟩)) C c := by
  refine ⟨w.heap.size, cs.toList, rfl, hN, by simp, by simpa using hm, ?_, ?_, hC⟩
  · intro i v hv
    have hlt : i < cs.size := by
      rcases Nat.lt_or_ge i cs.toList.length with h | h
      · simpa using h
      · rw [List.getElem?_eq_none h] at hv; cases hv
    simp at hv
    have := World.news_of_block (cs := cs) (t := T) (fr := (0, 0)) (heap_alloc_new w (.cells cs T)) i v (by simpa using hv)
    have hadd : (⟨w.heap.size, 0, none⟩ : Addr).add i = ⟨w.heap.size, i, none⟩ := by unfold Addr.add; split <;> simp_all
    rw [hadd] at this; exact this
  · intro o; go_simp

theorem Box.setFar {N m : Nat} {w : World} {p : Value} {C : Prop} {c : List Value} {Y o : Nat} {u : Value} (h : Box N m w p C c) (hY : p ≠ .pointer (some ⟨Y, 0, none⟩)) : Box N m (w.setCell ⟨Y, o, none⟩ u) p C c :=
  h.far hY (fun b o' hb => World.cell?_setCell_other _ _ _ _ (fun e => by cases e; exact hb rfl)) (fun b o' _ => by go_simp) (by simp) id
theorem Box.mk3 {N : Nat} {w : World} {X : Nat} {C : Prop} {x0 x1 x2 : Value} (h1 : N ≤ X) (h2 : X < w.heap.size) (c0 : w.cell? ⟨X, 0, none⟩ = some x0) (c1 : w.cell? ⟨X, 1, none⟩ = some x1) (c2 : w.cell? ⟨X, 2, none⟩ = some x2) (hf : ∀ o, w.frozen? ⟨X, o, none⟩ = false) : Box N 3 w (.pointer (some ⟨X, 0, none⟩)) C [x0, x1, x2] := by
  refine ⟨X, _, rfl, h1, h2, rfl, ?_, hf, fun _ => rfl⟩
  intro i v hv
  match i, hv with
  | 0, hv => cases hv; exact c0
  | 1, hv => cases hv; exact c1
  | 2, hv => cases hv; exact c2
end

section
def evF (n : Nat) (s : Nat → Value) : Operand → Value
  | .tmp t => if t < n then s t else undef
  | .const v => v
  | .global g => .pointer (some ⟨g, 0, none⟩)
  | .func f => .func (.func f) #[] #[]
def tmA (n : Nat) (s : Nat → Value) : Array Value := (Array.range n).map s
def mkA (n : Nat) (s : Nat → Value) (ds : List Deferred) : Act := { tmps := tmA n s, defers := ds }
variable {ds : List Deferred}
@[simp] theorem mkA_tmps (n : Nat) (s : Nat → Value) : (mkA n s ds).tmps = tmA n s := rfl
theorem tmA_size (n : Nat) (s : Nat → Value) : (tmA n s).size = n := by simp [tmA]

@[simp] theorem evF_tmp (n : Nat) (s : Nat → Value) (t : Nat) : evF n s (.tmp t) = if t < n then s t else undef := rfl
@[simp] theorem evF_const (n : Nat) (s : Nat → Value) (v : Value) : evF n s (.const v) = v := rfl
@[simp] theorem evF_global (n : Nat) (s : Nat → Value) (g : Nat) : evF n s (.global g) = .pointer (some ⟨g, 0, none⟩) := rfl
@[simp] theorem evF_func (n : Nat) (s : Nat → Value) (f : Nat) : evF n s (.func f) = .func (.func f) #[] #[] := rfl
@[simp] theorem updS_some (s : Nat → Value) (d : Nat) (v : Value) (j : Nat) : updS s (some d) v j = if j = d then v else s j := rfl
@[simp] theorem updS_none (s : Nat → Value) (v : Value) : updS s none v = s := rfl

theorem mkA_get (n : Nat) (s : Nat → Value) (t : Nat) : (tmA n s)[t]? = if t < n then some (s t) else none := by
  unfold tmA
  rw [Array.getElem?_map, Array.getElem?_range]
  split <;> rfl
theorem mkA_eval (n : Nat) (s : Nat → Value) : (mkA n s ds).eval = evF n s := by
  funext o
  cases o with
  | tmp t =>
    show (tmA n s).getD t undef = if t < n then s t else undef
    rw [Array.getD_eq_getD_getElem?, mkA_get]
    split <;> rfl
  | const v => rfl
  | global g => rfl
  | func f => rfl
theorem mkA_put (n : Nat) (s : Nat → Value) (d : Option Nat) (v : Value) : (mkA n s ds).put d v = mkA n (updS s d v) ds := by
  cases d with
  | none => rfl
  | some d =>
    apply Act.ext'
    · apply Array.ext_getElem?
      intro k
      (try simp only [mkA_tmps])
      rw [mkA_get]
      simp only [Act.put, Array.getElem?_setIfInBounds, mkA_get, updS]
      have hsz : (tmA n s).size = n := by simp [tmA]
      by_cases h : d = k
      · subst h; simp [hsz]
      · have h' : ¬ k = d := fun e => h e.symm
        simp [h, h', mkA_get]
    · rfl
theorem mkA_of (a : Act) (h : a.defers = []) : a = mkA a.tmps.size (fun t => a.tmps.getD t undef) [] := by
  apply Act.ext'
  · apply Array.ext_getElem?
    intro k
    (try simp only [mkA_tmps])
    rw [mkA_get]
    split
    · rename_i hk; simp [Array.getD_eq_getD_getElem?, hk]
    · rename_i hk; rw [Array.getElem?_eq_none (by omega)]
  · exact h

@[simp] theorem mkA_get' (n : Nat) (s : Nat → Value) (t : Nat) : (tmA n s)[t]? = if t < n then some (s t) else none := mkA_get n s t
@[simp] theorem mkA_defers (n : Nat) (s : Nat → Value) : (mkA n s ds).defers = ds := rfl
@[simp] theorem mkA_fold (n : Nat) (s : Nat → Value) (d : Nat) (v : Value) : ({ tmps := (tmA n s).setIfInBounds d v, defers := ds } : Act) = mkA n (updS s (some d) v) ds := mkA_put n s (some d) v
@[simp] theorem mkA_eta (n : Nat) (s : Nat → Value) : ({ tmps := (tmA n s), defers := ds } : Act) = mkA n s ds := rfl

theorem wp_abs {P : Program} {c : Code} {Q : Exit → Act → World → Prop} {n : Nat} {S : Nat → Value} {w : World} (h : ∀ s', s' = S → c.wp P Q (mkA n s' ds) w) : c.wp P Q (mkA n S ds) w := h S rfl

/- one operation -/
def uponF (P : Program) (K : Value → World → Prop) : Result Next → Prop
  | .ok (.value v) w' => K v w'
  | .ok .skip w' => K undef w'
  | .ok (.enter f args) w' => Calls P f args w' fun e w'' => ∃ v, e = .returned v ∧ K v w''
  | .ok (.row r args) w' => Rows P r args w' K
  | _ => False
@[simp] theorem uponF_value (P : Program) (K : Value → World → Prop) (v : Value) (w : World) : uponF P K (.ok (.value v) w) = K v w := rfl
@[simp] theorem uponF_skip (P : Program) (K : Value → World → Prop) (w : World) : uponF P K (.ok .skip w) = K undef w := rfl
@[simp] theorem uponF_enter (P : Program) (K : Value → World → Prop) (f : FuncId) (args : Array Value) (w : World) : uponF P K (.ok (.enter f args) w) = Calls P f args w fun e w'' => ∃ v, e = .returned v ∧ K v w'' := rfl
def opF (P : Program) (o : Oper) (n : Nat) (s : Nat → Value) (w : World) (K : Value → World → Prop) : Prop := uponF P K ((execOp (evF n s) o).run P w)
theorem uponF.mono {P : Program} {K K' : Value → World → Prop} (h : ∀ v w, K v w → K' v w) {r : Result Next} (hh : uponF P K r) : uponF P K' r := by
  cases r with
  | ok n w' =>
    cases n with
    | value v => exact h _ _ hh
    | skip => exact h _ _ hh
    | enter f args => exact Calls.mono (h := hh) fun e w'' ⟨v, he, hk⟩ => ⟨v, he, h _ _ hk⟩
    | row r args => exact Rows.mono hh h
    | _ => exact hh
  | halt x w' => exact hh
theorem opF_wp {P : Program} {o : Oper} {n : Nat} {s : Nat → Value} {w : World} {K : Act → World → Prop} {Q : Exit → Act → World → Prop} (h : opF P o n s w fun v w' => K (mkA n (updS s o.dst v) ds) w') : o.wp P (mkA n s ds) w K Q := by
  unfold opF at h
  unfold Oper.wp
  rw [mkA_eval]
  generalize (execOp (evF n s) o).run P w = r at *
  cases r with
  | ok nx w' =>
    cases nx with
    | value v => simp only [uponF] at h; simp only [Oper.upon]; rw [mkA_put]; exact h
    | skip => simp only [uponF] at h; simp only [Oper.upon]; rw [mkA_put]; exact h
    | enter f args =>
      simp only [uponF] at h
      simp only [Oper.upon]
      exact h.mono fun e w'' ⟨v, he, hk⟩ => by subst he; show K ((mkA n s ds).put o.dst v) w''; rw [mkA_put]; exact hk
    | row r args =>
      simp only [uponF] at h
      simp only [Oper.upon]
      exact Rows.mono h fun v w'' hk => by rw [mkA_put]; exact hk
    | _ => exact (h : False).elim
  | halt x w' => exact (h : False).elim

/- a region in the order of the text -/
def listF (P : Program) (ops : Array Oper) (n : Nat) (K : (Nat → Value) → World → Prop) : List Oper → (Nat → Value) → World → Prop
  | [], s, w => K s w
  | o :: os, s, w => if Region.wanted o (yielded ops (tmA n s)) then opF P o n s w (fun v w' => listF P ops n K os (updS s o.dst v) w') else listF P ops n K os (updS s o.dst undef) w
section
variable {P : Program} {ops : Array Oper} {n : Nat} {K : (Nat → Value) → World → Prop} {o : Oper} {os : List Oper} {s : Nat → Value} {w : World}
theorem listF_nil (h : K s w) : listF P ops n K [] s w := h
theorem listF_step (hg : o.guard = none) (h : ∀ K' : Value → World → Prop, (∀ v w', listF P ops n K os (updS s o.dst v) w' → K' v w') → opF P o n s w K') : listF P ops n K (o :: os) s w := by
  unfold listF
  rw [if_pos (by simp [Region.wanted, hg])]
  exact h _ fun _ _ h => h
theorem wanted_F {j d : Nat} {b b' : Bool} (hg : o.guard = some (j, b)) (hd : (ops[j]?).bind (·.dst) = some d) (hn : d < n) (hs : s d = .bool b') : Region.wanted o (yielded ops (tmA n s)) = (b' == b) := by
  unfold Region.wanted
  rw [hg]
  simp only [yielded, hd, Option.bind_some, mkA_get, hn, if_true, hs]
  cases b <;> cases b' <;> rfl
theorem listF_yes {j d : Nat} {b : Bool} (hg : o.guard = some (j, b)) (hd : (ops[j]?).bind (·.dst) = some d) (hn : d < n) (hs : s d = .bool b) (h : ∀ K' : Value → World → Prop, (∀ v w', listF P ops n K os (updS s o.dst v) w' → K' v w') → opF P o n s w K') : listF P ops n K (o :: os) s w := by
  unfold listF
  rw [if_pos (by rw [wanted_F hg hd hn hs]; simp)]
  exact h _ fun _ _ h => h
theorem listF_no {j d : Nat} {b b' : Bool} (hg : o.guard = some (j, b)) (hd : (ops[j]?).bind (·.dst) = some d) (hn : d < n) (hs : s d = .bool b') (hb : (b' == b) = false) (h : listF P ops n K os (updS s o.dst undef) w) : listF P ops n K (o :: os) s w := by
  unfold listF
  rw [if_neg (by rw [wanted_F hg hd hn hs, hb]; simp)]
  exact h
theorem listF_nu {j d : Nat} {b : Bool} (hg : o.guard = some (j, b)) (hd : (ops[j]?).bind (·.dst) = some d) (hn : d < n) (hs : s d = undef) (h : listF P ops n K os (updS s o.dst undef) w) : listF P ops n K (o :: os) s w := by
  unfold listF
  have : Region.wanted o (yielded ops (tmA n s)) = false := by
    unfold Region.wanted
    rw [hg]
    simp only [yielded, hd, Option.bind_some, mkA_get, hn, if_true, hs]
    rfl
  rw [if_neg (by rw [this]; simp)]
  exact h
end
theorem listF_wp {P : Program} {ops : Array Oper} {n : Nat} {Q : Exit → Act → World → Prop} : ∀ (l : List Oper) (s : Nat → Value) (w : World), listF P ops n (fun s w => Q .normal (mkA n s ds) w) l s w → wpList P ops Q l (mkA n s ds) w
  | [], _, _, h => h
  | o :: os, s, w, h => by
    unfold listF at h
    refine wpList_step fun K hK => ?_
    split at h
    · rename_i hw
      rw [if_pos (show Region.wanted o (yielded ops (mkA n s ds).tmps) = true from hw)]
      refine opF_wp ?_
      exact uponF.mono (fun v w' h' => hK _ _ (listF_wp os _ _ h')) h
    · rename_i hw
      rw [if_neg (show ¬ Region.wanted o (yielded ops (mkA n s ds).tmps) = true from hw), mkA_put]
      exact hK _ _ (listF_wp os _ _ h)
theorem region_F {P : Program} {id : Nat} {l : List Oper} {n : Nat} {Q : Exit → Act → World → Prop} {s : Nat → Value} {w : World} (h : listF P l.toArray n (fun s w => Q .normal (mkA n s ds) w) l s w) : (Code.region id l.toArray false).wp P Q (mkA n s ds) w :=
  wp_region_lit (listF_wp l s w h)

/- a region that draws its order and whose operations keep a class of worlds -/
def listQ (P : Program) (ops : Array Oper) (n : Nat) (C : World → Prop) (K : (Nat → Value) → Prop) : List Oper → (Nat → Value) → Prop
  | [], s => K s
  | o :: os, s => if Region.wanted o (yielded ops (tmA n s)) then ∃ v, (∀ w, C w → Oper.quietUpon P C w v ((execOp (evF n s) o).run P w)) ∧ listQ P ops n C K os (updS s o.dst v) else listQ P ops n C K os (updS s o.dst undef)
@[simp] theorem quietUpon_value {P : Program} {C : World → Prop} {w w' : World} {u v : Value} : Oper.quietUpon P C w v (.ok (.value u) w') = (w' = w ∧ u = v) := rfl
@[simp] theorem quietUpon_enter {P : Program} {C : World → Prop} {w w' : World} {f : FuncId} {args : Array Value} {v : Value} : Oper.quietUpon P C w v (.ok (.enter f args) w') = (w' = w ∧ Calls P f args w (fun e w'' => e = .returned v ∧ C w'')) := rfl
section
variable {P : Program} {ops : Array Oper} {n : Nat} {C : World → Prop} {K : (Nat → Value) → Prop} {o : Oper} {os : List Oper} {s : Nat → Value}
theorem listQ_nil (h : K s) : listQ P ops n C K [] s := h
theorem listQ_step {v : Value} (hg : o.guard = none) (h1 : ∀ w, C w → Oper.quietUpon P C w v ((execOp (evF n s) o).run P w)) (h2 : listQ P ops n C K os (updS s o.dst v)) : listQ P ops n C K (o :: os) s := by
  unfold listQ
  rw [if_pos (by simp [Region.wanted, hg])]
  exact ⟨v, h1, h2⟩
theorem listQ_yes {v : Value} {j d : Nat} {b : Bool} (hg : o.guard = some (j, b)) (hd : (ops[j]?).bind (·.dst) = some d) (hn : d < n) (hs : s d = .bool b) (h1 : ∀ w, C w → Oper.quietUpon P C w v ((execOp (evF n s) o).run P w)) (h2 : listQ P ops n C K os (updS s o.dst v)) : listQ P ops n C K (o :: os) s := by
  unfold listQ
  rw [if_pos (by rw [wanted_F hg hd hn hs]; simp)]
  exact ⟨v, h1, h2⟩
theorem listQ_no {j d : Nat} {b b' : Bool} (hg : o.guard = some (j, b)) (hd : (ops[j]?).bind (·.dst) = some d) (hn : d < n) (hs : s d = .bool b') (hb : (b' == b) = false) (h : listQ P ops n C K os (updS s o.dst undef)) : listQ P ops n C K (o :: os) s := by
  unfold listQ
  rw [if_neg (by rw [wanted_F hg hd hn hs, hb]; simp)]
  exact h
theorem listQ_nu {j d : Nat} {b : Bool} (hg : o.guard = some (j, b)) (hd : (ops[j]?).bind (·.dst) = some d) (hn : d < n) (hs : s d = undef) (h : listQ P ops n C K os (updS s o.dst undef)) : listQ P ops n C K (o :: os) s := by
  unfold listQ
  have : Region.wanted o (yielded ops (tmA n s)) = false := by
    unfold Region.wanted
    rw [hg]
    simp only [yielded, hd, Option.bind_some, mkA_get, hn, if_true, hs]
    rfl
  rw [if_neg (by rw [this]; simp)]
  exact h
end
theorem listQ_wp {P : Program} {ops : Array Oper} {n : Nat} {C : World → Prop} {K : (Nat → Value) → Prop} {R : Act → Prop} (hR : ∀ s, K s → R (mkA n s ds)) : ∀ (l : List Oper) (s : Nat → Value), listQ P ops n C K l s → wpQuiet P ops C R l (mkA n s ds)
  | [], s, h => hR s h
  | o :: os, s, h => by
    unfold listQ at h
    unfold wpQuiet
    split at h
    · rename_i hw
      rw [if_pos (show Region.wanted o (yielded ops (mkA n s ds).tmps) = true from hw)]
      obtain ⟨v, h1, h2⟩ := h
      refine ⟨v, ?_, by rw [mkA_put]; exact listQ_wp hR os _ h2⟩
      intro w hw'
      unfold Oper.quietAt
      rw [mkA_eval]; exact h1 w hw'
    · rename_i hw
      rw [if_neg (show ¬ Region.wanted o (yielded ops (mkA n s ds).tmps) = true from hw), mkA_put]
      exact listQ_wp hR os _ h
theorem regionQ_F {P : Program} {id : Nat} {l : List Oper} {n : Nat} {Q : Exit → Act → World → Prop} {s : Nat → Value} {w : World} (C : World → Prop) (hm : P.follows .mixedOrders = true) (hB : Region.lexB .any l.toArray = true) (hC : C w.drew)
    (h : listQ P l.toArray n C (fun s => ∀ w', C w' → Q .normal (mkA n s ds) w') l s) : (Code.region id l.toArray true).wp P Q (mkA n s ds) w :=
  wp_region_quiet (C := C) hm hB hC (by
    have := listQ_wp (R := fun a' => ∀ w', C w' → Q .normal a' w') (fun s hs => hs) l s h
    simpa using this)

/- .. whose operations but the last ones leave the world as it is -/
def stillF (P : Program) (w : World) (K : Value → Prop) : Result Next → Prop
  | .ok (.value v) w' => w' = w ∧ K v
  | .ok .skip w' => w' = w ∧ K undef
  | .ok (.enter f args) w' => w' = w ∧ ∃ v, Calls P f args w (fun e w'' => e = .returned v ∧ w'' = w) ∧ K v
  | _ => False
@[simp] theorem stillF_value (P : Program) (w w' : World) (K : Value → Prop) (v : Value) : stillF P w K (.ok (.value v) w') = (w' = w ∧ K v) := rfl
@[simp] theorem stillF_enter (P : Program) (w w' : World) (K : Value → Prop) (f : FuncId) (args : Array Value) : stillF P w K (.ok (.enter f args) w') = (w' = w ∧ ∃ v, Calls P f args w (fun e w'' => e = .returned v ∧ w'' = w) ∧ K v) := rfl
def listS (P : Program) (ops : Array Oper) (n : Nat) (w : World) (K : (Nat → Value) → Prop) : List Oper → (Nat → Value) → Prop
  | [], s => K s
  | o :: os, s => if Region.wanted o (yielded ops (tmA n s)) then stillF P w (fun v => listS P ops n w K os (updS s o.dst v)) ((execOp (evF n s) o).run P w) else listS P ops n w K os (updS s o.dst undef)
section
variable {P : Program} {ops : Array Oper} {n : Nat} {w : World} {K : (Nat → Value) → Prop} {o : Oper} {os : List Oper} {s : Nat → Value}
theorem listS_nil (h : K s) : listS P ops n w K [] s := h
theorem listS_step (hg : o.guard = none) (h : ∀ K' : Value → Prop, (∀ v, listS P ops n w K os (updS s o.dst v) → K' v) → stillF P w K' ((execOp (evF n s) o).run P w)) : listS P ops n w K (o :: os) s := by
  unfold listS
  rw [if_pos (by simp [Region.wanted, hg])]
  exact h _ fun _ h => h
end
theorem listS_wp {P : Program} {ops : Array Oper} {n : Nat} {w : World} {K : (Nat → Value) → Prop} {R : Act → Prop} (hR : ∀ s, K s → R (mkA n s ds)) : ∀ (l : List Oper) (s : Nat → Value), listS P ops n w K l s → wpStill P ops w R l (mkA n s ds)
  | [], s, h => hR s h
  | o :: os, s, h => by
    unfold listS at h
    unfold wpStill
    split at h
    · rename_i hw
      rw [if_pos (show Region.wanted o (yielded ops (mkA n s ds).tmps) = true from hw)]
      unfold Oper.still
      rw [mkA_eval]
      generalize (execOp (evF n s) o).run P w = r at *
      cases r with
      | ok nx w' =>
        cases nx with
        | value v => simp only [stillF] at h; simp only [Oper.stillUpon]; rw [mkA_put]; exact ⟨h.1, listS_wp hR os _ h.2⟩
        | skip => simp only [stillF] at h; simp only [Oper.stillUpon]; rw [mkA_put]; exact ⟨h.1, listS_wp hR os _ h.2⟩
        | enter f args =>
          simp only [stillF] at h
          simp only [Oper.stillUpon]
          obtain ⟨h1, v, h2, h3⟩ := h
          exact ⟨h1, v, h2, by rw [mkA_put]; exact listS_wp hR os _ h3⟩
        | _ => exact (h : False).elim
      | halt x w' => exact (h : False).elim
    · rename_i hw
      rw [if_neg (show ¬ Region.wanted o (yielded ops (mkA n s ds).tmps) = true from hw), mkA_put]
      exact listS_wp hR os _ h
theorem regionT_F {P : Program} {id : Nat} {l : List Oper} {n : Nat} {Q : Exit → Act → World → Prop} {s : Nat → Value} {w : World} (k : Nat) (hm : P.follows .mixedOrders = true) (hB : Region.lexTailB .any l.toArray k = true)
    (h : listS P l.toArray n w.drew (fun s => listF P l.toArray n (fun s w => Q .normal (mkA n s ds) w) (l.drop k) s w.drew) (l.take k) s) : (Code.region id l.toArray true).wp P Q (mkA n s ds) w :=
  wp_region_still_tail k hm hB (listS_wp (R := fun a' => wpList P l.toArray Q (l.drop k) a' w.drew) (fun s hs => listF_wp _ s _ hs) _ s h)

/- .. by an invariant -/
def invF (P : Program) (ops : Array Oper) (n : Nat) (J : (Nat → Bool) → (Nat → Value) → World → Prop) : Nat → List Oper → Prop
  | _, [] => True
  | i, o :: os => (∀ (L : Nat → Bool) (s : Nat → Value) (w : World), L i = false → (∀ e ∈ o.after.toList, Region.binds .any e = true → L e.on = true) → J L s w →
      (∀ K : Value → World → Prop, (∀ v w', J (upd L i) (updS s o.dst v) w' → K v w') →
        if Region.wanted o (yielded ops (tmA n s)) then opF P o n s w K else K undef w)) ∧ invF P ops n J (i + 1) os
theorem invF_steps {P : Program} {ops : Array Oper} {n : Nat} {Q : Exit → Act → World → Prop} {J : (Nat → Bool) → (Nat → Value) → World → Prop} {s0 : Nat → Value} : ∀ (l : List Oper) (i : Nat), (∀ o ∈ l, ∀ d, o.dst = some d → d < n) → invF P ops n J i l → invSteps P ops Q (mkA n s0 ds) (List.range n) J i l
  | [], _, _, _ => trivial
  | o :: os, i, hd, h => by
    refine ⟨?_, invF_steps os (i + 1) (fun o ho => hd o (List.mem_cons_of_mem _ ho)) h.2⟩
    intro L s w hL hdp hJ K hK
    have hset : setAll (mkA n s0 ds) (List.range n) s = mkA n s ds := by
      apply Act.ext'
      · apply Array.ext_getElem?
        intro k
        (try simp only [mkA_tmps])
        rw [setAll_get]; show (if k ∈ List.range n ∧ k < (tmA n s0).size then some (s k) else (tmA n s0)[k]?) = (tmA n s)[k]?; rw [mkA_get, mkA_get]
        have hsz : (tmA n s0).size = n := by simp [tmA]
        rw [hsz]
        by_cases hk : k < n
        · simp [hk]
        · simp [hk]
      · rw [setAll_defers]; rfl
    rw [hset] at hK ⊢
    have h1 := h.1 L s w hL hdp hJ (fun v w' => K (mkA n (updS s o.dst v) ds) w') (fun v w' hj => by have := hK v w' hj; rwa [mkA_put] at this)
    split
    · rename_i hw; rw [if_pos (show Region.wanted o (yielded ops (tmA n s)) = true from hw)] at h1; exact opF_wp h1
    · rename_i hw; rw [if_neg (show ¬ Region.wanted o (yielded ops (tmA n s)) = true from hw)] at h1; rw [mkA_put]; exact h1
theorem regionI_F {P : Program} {id : Nat} {l : List Oper} {n : Nat} {Q : Exit → Act → World → Prop} {s : Nat → Value} {w : World} (J : (Nat → Bool) → (Nat → Value) → World → Prop)
    (hm : P.follows .mixedOrders = true) (hb : backB l.toArray = true) (hd : dstB l.toArray (List.range n) = true)
    (h0 : J (fun _ => false) (fun d => if d < n then s d else undef) w.drew)
    (he : ∀ s w, J (fun j => decide (j < l.length)) s w → Q .normal (mkA n s ds) w)
    (hs : invF P l.toArray n J 0 l) : (Code.region id l.toArray true).wp P Q (mkA n s ds) w := by
  have hset : ∀ s', setAll (mkA n s ds) (List.range n) s' = mkA n s' ds := by
    intro s'
    apply Act.ext'
    · apply Array.ext_getElem?
      intro k
      (try simp only [mkA_tmps])
      rw [setAll_get]; show (if k ∈ List.range n ∧ k < (tmA n s).size then some (s' k) else (tmA n s)[k]?) = (tmA n s')[k]?; rw [mkA_get, mkA_get]
      have hsz : (tmA n s).size = n := by simp [tmA]
      rw [hsz]
      by_cases hk : k < n
      · simp [hk]
      · simp [hk]
    · rw [setAll_defers]; rfl
  refine wp_region_inv (List.range n) J hm hb hd ?_ ?_ (invF_steps l 0 ?_ hs)
  · have : (fun d => (tmA n s).getD d undef) = fun d => if d < n then s d else undef := by
      funext d
      rw [Array.getD_eq_getD_getElem?, mkA_get]; split <;> rfl
    show J (fun _ => false) (fun d => (tmA n s).getD d undef) w.drew
    rw [this]; exact h0
  · intro s' w' hj; rw [hset]; exact he s' w' hj
  · intro o ho d hdst
    unfold dstB at hd
    rw [Array.all_eq_true] at hd
    obtain ⟨i, hi, rfl⟩ := List.mem_iff_getElem.1 ho
    have := hd i (by simpa using hi)
    simp only [List.getElem_toArray, hdst] at this
    simpa using this

/- entering, tests, loops, results -/
theorem enter_F {P : Program} {f : FuncId} {fn : Func} {c : Code} {args : Array Value} {w : World} {R : Ending → World → Prop} {n : Nat} (hf : P.funcs[f]? = some fn) (hb : fn.body = some c) (hn : fn.ntmps = n) (ha : args.size ≤ n)
    (h : ∀ s : Nat → Value, (∀ i, i < args.size → s i = args[i]?.getD undef) → c.wp P (bodyPost P fn R) (mkA n s []) w) : Calls P f args w R := by
  refine calls_of_wp hf hb ?_
  rw [hn]
  have hmk := mkA_of { tmps := args ++ Array.replicate (n - args.size) undef, defers := [] } rfl
  have hsz : (args ++ Array.replicate (n - args.size) undef).size = n := by simp; omega
  rw [hmk]
  simp only [hsz]
  refine h _ fun i hi => ?_
  simp [Array.getD_eq_getD_getElem?, Array.getElem?_append_left, hi]
theorem cond_F {P : Program} {c : Operand} {x y : Code} {n : Nat} {Q : Exit → Act → World → Prop} {s : Nat → Value} {w : World} (b : Bool) (hc : evF n s c = .bool b) (h : (if b then x else y).wp P Q (mkA n s ds) w) : (Code.cond c x y).wp P Q (mkA n s ds) w :=
  wp_cond (by rw [mkA_eval]; exact hc) h
theorem least_ex {p : Nat → Prop} (h : ∃ k, p k) : ∃ k, p k ∧ ∀ j, p j → k ≤ j := by
  obtain ⟨k, hk⟩ := h
  induction k using Nat.strongRecOn with
  | _ k ih =>
    by_cases hj : ∃ j, j < k ∧ p j
    · obtain ⟨j, hjk, hp⟩ := hj; exact ih j hjk hp
    · exact ⟨k, hk, fun j hp => by rcases Nat.lt_or_ge j k with h | h; exact absurd ⟨j, h, hp⟩ hj; exact h⟩
theorem loop_F {P : Program} {c : Code} {n : Nat} {Q : Exit → Act → World → Prop} (J : Nat → (Nat → Value) → World → Prop) {k0 : Nat} {s0 : Nat → Value} {w0 : World} (h0 : J k0 s0 w0)
    (round : ∀ k s w, J k s w → c.wp P (Exit.then (fun a' w' => ∃ k' s', a' = mkA n s' ds ∧ k' < k ∧ J k' s' w') Q) (mkA n s ds) w) : (Code.loop c).wp P Q (mkA n s0 ds) w0 := by
  classical
  let p : Act → World → Nat → Prop := fun a w k => ∃ s, a = mkA n s ds ∧ J k s w
  let μ : Act → World → Nat := fun a w => if h : ∃ k, p a w k then Classical.choose (least_ex h) else 0
  refine wp_loop (fun a w => ∃ k, p a w k) μ ⟨k0, s0, rfl, h0⟩ ?_
  intro a w hI
  have hμ : μ a w = Classical.choose (least_ex hI) := by show (if h : _ then _ else _) = _; rw [dif_pos hI]
  obtain ⟨⟨s, rfl, hJ⟩, hmin⟩ := Classical.choose_spec (least_ex hI)
  refine wp_mono (round _ s w hJ) ?_
  intro e a' w' h
  cases e with
  | normal =>
    obtain ⟨k', s', rfl, hlt, hJ'⟩ := h
    have hI' : ∃ k, p (mkA n s' ds) w' k := ⟨k', s', rfl, hJ'⟩
    refine ⟨hI', ?_⟩
    have hμ' : μ (mkA n s' ds) w' = Classical.choose (least_ex hI') := by show (if h : _ then _ else _) = _; rw [dif_pos hI']
    rw [hμ, hμ']
    exact Nat.lt_of_le_of_lt ((Classical.choose_spec (least_ex hI')).2 k' ⟨s', rfl, hJ'⟩) hlt
  | exit id => exact h
  | goto l => exact h
  | ret => exact h
  | panic ch => exact h
  | outgrown => exact h

theorem getD_F {n : Nat} {s : Nat → Value} {t : Nat} (h : t < n) : (tmA n s).getD t undef = s t := by
  rw [Array.getD_eq_getD_getElem?, mkA_get, if_pos h]; rfl
theorem ret_F {P : Program} {fn : Func} {R : Ending → World → Prop} {n : Nat} {s : Nat → Value} {w : World} (v : Value) (hr : (results fn (tmA n s)).run P w = .ok v w) (h : R (.returned v) w) : bodyPost P fn R .ret (mkA n s []) w := ⟨rfl, v, hr, h⟩
theorem res1_F {P : Program} {fn : Func} {p n : Nat} {s : Nat → Value} {w : World} {v : Value} (h : fn.results = #[.tmp p]) (hp : p < n) (hv : s p = v) : (results fn (tmA n s)).run P w = .ok v w := by
  subst hv
  simp only [results, h]
  simp [hp]

/-- block b reads as the cells l, and may be written -/
def Cells (w : World) (b : Nat) (l : List Value) : Prop := b < w.heap.size ∧ (∀ i v, l[i]? = some v → w.cell? ⟨b, i, none⟩ = some v) ∧ ∀ o, w.frozen? ⟨b, o, none⟩ = false
theorem Cells.at {w w' : World} {b : Nat} {l : List Value} (h : Cells w b l) (hb : Below w.heap.size w w') : Cells w' b l := by
  obtain ⟨e, f⟩ := bcell hb
  exact ⟨Nat.lt_of_lt_of_le h.1 hb.size, fun i v hv => (e b i h.1).trans (h.2.1 i v hv), fun o => (f b o h.1).trans (h.2.2 o)⟩
theorem Cells.up {w : World} {b : Nat} {l : List Value} (h : Cells w b l) (o : Obj) : Cells (w.alloc o) b l := h.at ((Below.refl _ _).alloc (Nat.le_refl _) _)
theorem Cells.drew {w : World} {b : Nat} {l : List Value} (h : Cells w b l) : Cells w.drew b l := h
theorem Cells.setFar {w : World} {b Y o : Nat} {l : List Value} {u : Value} (h : Cells w b l) (hn : b ≠ Y) : Cells (w.setCell ⟨Y, o, none⟩ u) b l :=
  ⟨by simpa using h.1, fun i v hv => (World.cell?_setCell_other _ _ _ _ (fun e => by cases e; exact hn rfl)).trans (h.2.1 i v hv), fun o => by rw [World.frozen?_setCell]; exact h.2.2 o⟩
theorem Cells.set {w : World} {b i : Nat} {l : List Value} {u : Value} (h : Cells w b l) : Cells (w.setCell ⟨b, i, none⟩ u) b (l.set i u) := by
  refine ⟨by simpa using h.1, fun j v hv => ?_, fun o => by rw [World.frozen?_setCell]; exact h.2.2 o⟩
  by_cases hij : i = j
  · subst hij
    rw [List.getElem?_set] at hv
    simp only [if_true] at hv
    split at hv
    · rename_i hl
      cases hv
      have hc := h.2.1 i _ (List.getElem?_eq_getElem hl)
      exact World.cell?_setCell_same' _ _ _ (by rw [hc]; rfl)
    · cases hv
  · rw [List.getElem?_set_ne hij] at hv
    exact (World.cell?_setCell_other _ _ _ _ (fun e => by cases e; exact hij rfl)).trans (h.2.1 j v hv)
theorem Cells.new {w : World} {cs : Array Value} {T : TypeId} {N : Nat} (hN : w.heap.size = N) : Cells (w.alloc (.cells cs T)) N cs.toList := by
  subst hN
  obtain ⟨X, l, hp, _, h2, _, h4, h5, h6⟩ := Box.new (N := w.heap.size) (m := cs.size) (w := w) (cs := cs) (T := T) (C := True) (c := cs.toList) (Nat.le_refl _) rfl (fun _ => rfl)
  cases hp
  rw [h6 trivial] at h4
  exact ⟨h2, h4, h5⟩
theorem Cells.cell {w : World} {b : Nat} {l : List Value} (h : Cells w b l) (i : Nat) {v : Value} (hv : l[i]? = some v) : w.cell? ⟨b, i, none⟩ = some v := h.2.1 i v hv

/-- while the named results of a call are handed back: two blocks read, written back as they were, a third result set -/
def RetJ (N : Nat) (w0 : World) (S A : Nat) (lS lA : List Value) (tS tA tE d1 d2 k : Nat) (e : Value) (L : Nat → Bool) (s : Nat → Value) (w : World) : Prop :=
  Cells w S lS ∧ Cells w A lA ∧ Below N w0 w ∧ s tS = .pointer (some ⟨S, 0, none⟩) ∧ s tA = .pointer (some ⟨A, 0, none⟩) ∧ (L 0 = true → s d1 = .agg lS.toArray) ∧ (L 1 = true → s d2 = .agg lA.toArray) ∧ (L k = true → s tE = e)

/-- a variable's block, made in the region itself: c says whether it has been set -/
def BoxJ (N : Nat) (w : World) (p : Value) (c : Bool) (Z V : List Value) : Prop := ∃ X, p = .pointer (some ⟨X, 0, none⟩) ∧ N ≤ X ∧ Cells w X (if c then V else Z)
theorem BoxJ.at {N : Nat} {w w' : World} {p : Value} {c : Bool} {Z V : List Value} (h : BoxJ N w p c Z V) (hb : Below w.heap.size w w') : BoxJ N w' p c Z V := by
  obtain ⟨X, h1, h2, h3⟩ := h; exact ⟨X, h1, h2, h3.at hb⟩
theorem BoxJ.setFar {N : Nat} {w : World} {p : Value} {c : Bool} {Z V : List Value} {Y o : Nat} {u : Value} (h : BoxJ N w p c Z V) (hY : p ≠ .pointer (some ⟨Y, 0, none⟩)) : BoxJ N (w.setCell ⟨Y, o, none⟩ u) p c Z V := by
  obtain ⟨X, h1, h2, h3⟩ := h
  exact ⟨X, h1, h2, h3.setFar (fun e => hY (by rw [h1, e]))⟩
theorem BoxJ.setOld {N : Nat} {w : World} {p : Value} {c : Bool} {Z V : List Value} {Y o : Nat} {u : Value} (h : BoxJ N w p c Z V) (hY : Y < N) : BoxJ N (w.setCell ⟨Y, o, none⟩ u) p c Z V := by
  obtain ⟨X, h1, h2, h3⟩ := h
  exact ⟨X, h1, h2, h3.setFar (by omega)⟩
theorem BoxJ.new {N : Nat} {w : World} {cs : Array Value} {T : TypeId} {c : Bool} {Z V : List Value} (hN : N ≤ w.heap.size) (hc : c = false) (hZ : cs.toList = Z) : BoxJ N (w.alloc (.cells cs T)) (.pointer (some ⟨w.heap.size, 0, none⟩)) c Z V := by
  subst hc hZ; exact ⟨_, rfl, hN, Cells.new rfl⟩
theorem BoxJ.lt {N : Nat} {w : World} {p : Value} {c : Bool} {Z V : List Value} (h : BoxJ N w p c Z V) : p ≠ .pointer (some ⟨w.heap.size, 0, none⟩) := by
  obtain ⟨X, h1, _, h3⟩ := h
  intro e
  rw [h1] at e; cases e
  exact Nat.lt_irrefl _ h3.1
end

section
variable {ds : List Deferred}

theorem opF_of_wp {P : Program} {o : Oper} {n d : Nat} {s : Nat → Value} {w : World} {K' : Value → World → Prop} (hd : o.dst = some d) (hn : d < n)
    (h : ∀ (K : Act → World → Prop) (Q : Exit → Act → World → Prop), (∀ v w', K' v w' → K ((mkA n s []).put o.dst v) w') → o.wp P (mkA n s []) w K Q) : opF P o n s w K' := by
  have hg : ∀ v, ((mkA n s []).put o.dst v).tmps.getD d undef = v := by
    intro v
    rw [mkA_put, mkA_tmps, getD_F hn, hd]; simp [updS]
  have h1 := h (fun a w' => a.defers = [] ∧ K' (a.tmps.getD d undef) w') (fun _ _ _ => False) (fun v w' hk => by rw [mkA_put]; refine ⟨rfl, ?_⟩; have := hg v; rw [mkA_put] at this; rw [this]; exact hk)
  unfold opF
  unfold Oper.wp at h1
  rw [mkA_eval] at h1
  generalize (execOp (evF n s) o).run P w = r at *
  cases r with
  | ok nx w' =>
    cases nx with
    | value v => simp only [Oper.upon] at h1; simp only [uponF]; rw [hg] at h1; exact h1.2
    | skip => simp only [Oper.upon] at h1; simp only [uponF]; rw [hg] at h1; exact h1.2
    | enter f args =>
      simp only [Oper.upon] at h1
      simp only [uponF]
      refine h1.mono fun e w'' he => ?_
      cases e with
      | returned v => exact ⟨v, rfl, by have he' : ((mkA n s []).put o.dst v).defers = [] ∧ K' (((mkA n s []).put o.dst v).tmps.getD d undef) w'' := he; rw [hg] at he'; exact he'.2⟩
      | panicked chain => exact (he : False).elim
      | outgrown => obtain ⟨_, _, hf⟩ := he; exact (hf : False).elim
    | defer dd =>
      simp only [Oper.upon] at h1
      have := h1.1
      rw [hd] at this
      simp [Act.put] at this
    | row r args =>
      simp only [Oper.upon] at h1
      simp only [uponF]
      exact Rows.mono h1 fun v w'' hk => by rw [hg] at hk; exact hk.2
    | _ => exact (h1 : False).elim
  | halt x w' => cases x <;> exact (h1 : False).elim

/-- from a frame that is written out to a frame as a function -/
theorem wp_toF {P : Program} {c : Code} {Q : Exit → Act → World → Prop} {a : Act} {w : World} {n : Nat} (hd : a.defers = []) (hn : a.tmps.size = n) (h : ∀ s : Nat → Value, (∀ t, s t = a.tmps.getD t undef) → c.wp P Q (mkA n s []) w) : c.wp P Q a w := by
  have := mkA_of a hd
  rw [hn] at this
  rw [this]
  exact h _ fun t => rfl
end

section
theorem Rd.get {α : Type} {f : α → List Value} {m : Nat} {w : World} {b off : Nat} {l : List α} (h : Rd f m w (some ⟨b, off, none⟩) l) {k : Nat} (hk : k < l.length) :
    b < w.heap.size ∧ ∀ j v, (f l[k])[j]? = some v → w.cell? ⟨b, off + k * m + j, none⟩ = some v := by
  obtain ⟨b', off', he, hb, hc⟩ := Rd.ne h hk
  cases he
  exact ⟨hb, hc⟩
/-- some element before k answers yes -/
theorem any_take_succ {α : Type} (p : α → Bool) (l : List α) (k : Nat) (hk : k < l.length) : (l.take (k + 1)).any p = ((l.take k).any p || p l[k]) := by
  rw [List.take_succ_eq_append_getElem hk, List.any_append]; simp
theorem all_take_succ {α : Type} (p : α → Bool) (l : List α) (k : Nat) (hk : k < l.length) : (l.take (k + 1)).all p = ((l.take k).all p && p l[k]) := by
  rw [List.take_succ_eq_append_getElem hk, List.all_append]; simp
theorem any_of_get {α : Type} (p : α → Bool) (l : List α) (k : Nat) (hk : k < l.length) (h : p l[k] = true) : l.any p = true :=
  List.any_eq_true.2 ⟨l[k], List.getElem_mem hk, h⟩
end

section
theorem bdrewN {B : Nat} {a w : World} (h : Below B a w) (n : Nat) : Below B a (w.drewN n) := ⟨h.os, h.tape, h.output, h.size, h.block⟩
theorem eq_of_take {α : Type} [DecidableEq α] {x y : List α} (hl : x.length = y.length) {k : Nat} (hk : x.length ≤ k) (h : x.take k = y.take k) : x = y := by
  rw [List.take_of_length_le hk, List.take_of_length_le (by omega)] at h; exact h
theorem take_succ_eq {α : Type} {x y : List α} {k : Nat} (hx : k < x.length) (hy : k < y.length) (h : x.take k = y.take k) (hk : x[k] = y[k]) : x.take (k + 1) = y.take (k + 1) := by
  rw [List.take_succ_eq_append_getElem hx, List.take_succ_eq_append_getElem hy, h, hk]
theorem ne_of_get {α : Type} {x y : List α} {k : Nat} (hx : k < x.length) (hy : k < y.length) (h : x[k] ≠ y[k]) : x ≠ y := by
  intro e; subst e; exact h rfl
end

section
theorem dec_or (p : Prop) [Decidable p] : decide p = true ∨ decide p = false := by by_cases h : p <;> simp [h]
theorem beq_or (a b : Int) : (a == b) = true ∨ (a == b) = false := by by_cases h : a = b <;> simp [h]
end

section
theorem val_int {a b : Int} (h : a = b) : Value.int .i64 a = .int .i64 b := by rw [h]
end

section
theorem res0_F {P : Program} {fn : Func} {tmps : Array Value} {w : World} (h : fn.results = #[]) : (results fn tmps).run P w = .ok (.tuple #[]) w := by
  simp only [results, h]
  simp [Sem.run_bind, Result.andThen]
theorem norm_F {P : Program} {fn : Func} {R : Ending → World → Prop} {n : Nat} {s : Nat → Value} {w : World} (v : Value) (hr : (results fn (tmA n s)).run P w = .ok v w) (h : R (.returned v) w) : bodyPost P fn R .normal (mkA n s []) w := ⟨rfl, v, hr, h⟩
end
end


end Go.Proofs.YtigehmghcafblaaGreat
