/- Replace: plain laws; a plan in memory. -/
import Derived.Test.YtndcmmghgljinaaW33
import Derived.Test.YtndcmmghgljinaaW34
import Derived.Test.YtndcmmghgljinaaW14
set_option linter.all false
namespace Go.Proofs.Ytndcmmghgljinaa
open Go.RowKit


structure Vl where
  k : Kd
  a : Option Addr
  c : Nat
  ca : Option Addr
  cc : Nat
  cs : List MCk
abbrev Vl.vs (x : Vl) : List Value := [.int .i64 x.k.new, .int .i64 x.k.wear.lo, .int .i64 x.k.wear.hi, .slice x.a x.k.steps.length x.c, .slice x.ca x.cs.length x.cc]
abbrev RdVls := Rd Vl.vs 5
def VlIn (x : Vl) : Prop := (-9223372036854775808 ≤ x.k.new ∧ x.k.new ≤ 9223372036854775807) ∧ x.k.steps.length ≤ 9223372036854775807 ∧ x.cs.length ≤ 9223372036854775807
structure RdRack (w : World) (ar : Option Addr) (rack : List Vl) : Prop where
  rd : RdVls w ar rack
  st : ∀ x ∈ rack, RdSteps w x.a x.k.steps
  ck : ∀ x ∈ rack, RdCks w x.ca x.cs
  inn : ∀ x ∈ rack, VlIn x
theorem RdRack.at {w w' : World} {ar : Option Addr} {rack : List Vl} (h : RdRack w ar rack) (hb : Below w.heap.size w w') : RdRack w' ar rack :=
  ⟨Rd.at h.rd hb, fun x hx => Rd.at (h.st x hx) hb, fun x hx => Rd.at (h.ck x hx) hb, h.inn⟩
theorem RdVls.ne {w : World} {a : Option Addr} {l : List Vl} (h : RdVls w a l) {k : Nat} (hk : k < l.length) :
    ∃ b off, a = some ⟨b, off, none⟩ ∧ b < w.heap.size ∧ w.cell? ⟨b, off + k * 5, none⟩ = some (.int .i64 l[k].k.new) ∧ w.cell? ⟨b, off + k * 5 + 1, none⟩ = some (.int .i64 l[k].k.wear.lo) ∧ w.cell? ⟨b, off + k * 5 + 2, none⟩ = some (.int .i64 l[k].k.wear.hi) ∧
      w.cell? ⟨b, off + k * 5 + 3, none⟩ = some (.slice l[k].a l[k].k.steps.length l[k].c) ∧ w.cell? ⟨b, off + k * 5 + 4, none⟩ = some (.slice l[k].ca l[k].cs.length l[k].cc) := by
  obtain ⟨b, off, ha, hb, hc⟩ := Rd.ne h hk; exact ⟨b, off, ha, hb, by simpa using hc 0 _ rfl, hc 1 _ rfl, hc 2 _ rfl, hc 3 _ rfl, hc 4 _ rfl⟩
/-- the spans at the hour -/
def vSp (f : Int) (x : Vl) : Span := (asked x.k x.cs f).1
def vCan (f : Int) (x : Vl) : Int := (failsOf x.k (vSp f x) f).earliest
def addPlan (o : List (List Int)) (i : Nat) (l : List Int) : List (List Int) := l.foldl (fun o n => o.set n.toNat (o.getD n.toNat [] ++ [(i : Int)])) o
def repGo (l : List Int) (f u : Int) : List Vl → Nat → List (List Int) → Option (List (List Int))
  | [], _, o => some o
  | x :: t, i, o => match planR x.k l (vCan f x) f u with
    | none => none
    | some p => repGo l f u t (i + 1) (addPlan o i p)
def askErr (f : Int) (x : Vl) : Int := (asked x.k x.cs f).2
def rackErr (f : Int) (rack : List Vl) : Int := ((rack.find? fun x => askErr f x != 0).map (askErr f)).getD 0
def repErr (rack : List Vl) (l : List Int) (f u : Int) : Int :=
  if 12 < rack.length ∨ 20 < l.length then 3
  else if l.any (fun n => !inb n 0 100000) = true ∨ inb f 0 100000 = false ∨ inb u 0 100000 = false then 7
  else if ndec l = false ∨ dups l = true ∨ u < f then 2
  else rackErr f rack
def repOut (rack : List Vl) (l : List Int) (f u : Int) : Option (List (List Int)) := repGo l f u rack 0 (List.replicate l.length [])
def repRes (rack : List Vl) (l : List Int) (f u : Int) : List (List Int) × Int :=
  if repErr rack l f u ≠ 0 then ([], repErr rack l f u) else match repOut rack l f u with
    | none => ([], 9)
    | some o => (o, 0)
theorem addPlan_snoc (o : List (List Int)) (i : Nat) (l : List Int) (n : Int) : addPlan o i (l ++ [n]) = (addPlan o i l).set n.toNat ((addPlan o i l).getD n.toNat [] ++ [(i : Int)]) := by
  unfold addPlan; rw [List.foldl_append]; rfl
theorem addPlan_len (i : Nat) : ∀ (l : List Int) (o : List (List Int)), (addPlan o i l).length = o.length
  | [], _ => rfl
  | n :: l, o => by
    show (addPlan (o.set n.toNat _) i l).length = _
    rw [addPlan_len i l, List.length_set]
theorem rackErr_none {f : Int} {rack : List Vl} (h : ∀ x ∈ rack, askErr f x = 0) : rackErr f rack = 0 := by
  unfold rackErr; rw [List.find?_eq_none.2 (fun x hx => by simp [h x hx])]; rfl
theorem rackErr_some {f : Int} {rack : List Vl} {i : Nat} (hi : i < rack.length) (h : ∀ j (hj : j < rack.length), j < i → askErr f rack[j] = 0) (he : askErr f rack[i] ≠ 0) : rackErr f rack = askErr f rack[i] := by
  unfold rackErr
  have : rack.find? (fun x => askErr f x != 0) = some rack[i] := by
    rw [List.find?_eq_some_iff_getElem]; exact ⟨by simpa using he, i, hi, rfl, fun j hj => by simpa using h j (by omega) hj⟩
  rw [this]; rfl
theorem repGo_step {l : List Int} {f u : Int} {rack : List Vl} {i : Nat} (hi : i < rack.length) {o : List (List Int)} {p : List Int} (hp : planR rack[i].k l (vCan f rack[i]) f u = some p) : repGo l f u (rack.drop i) i o = repGo l f u (rack.drop (i + 1)) (i + 1) (addPlan o i p) := by
  rw [List.drop_eq_getElem_cons hi]
  show (match planR rack[i].k l (vCan f rack[i]) f u with | none => none | some p => _) = _
  rw [hp]
theorem repGo_down {l : List Int} {f u : Int} {rack : List Vl} {i : Nat} (hi : i < rack.length) {o : List (List Int)} (hp : planR rack[i].k l (vCan f rack[i]) f u = none) : repGo l f u (rack.drop i) i o = none := by
  rw [List.drop_eq_getElem_cons hi]
  show (match planR rack[i].k l (vCan f rack[i]) f u with | none => none | some p => _) = _
  rw [hp]
def RepRes (rack : List Vl) (l : List Int) (f u : Int) (w : World) (e : Ending) (w' : World) : Prop :=
  ∃ a xs c, e = .returned (.tuple #[.slice a xs.length c, .int .i64 (repRes rack l f u).2]) ∧ RdPlan w' a xs ∧ xs.map Sl.l = (repRes rack l f u).1 ∧ Below w.heap.size w w' ∧ (∀ b, a = some b → w.heap.size ≤ b.block)
theorem rep_no {rack : List Vl} {l : List Int} {f u : Int} {w w' : World} {n : Int} (h : repRes rack l f u = ([], n)) (hb : Below w.heap.size w w') : RepRes rack l f u w (.returned (.tuple #[.slice none 0 0, .int .i64 n])) w' :=
  ⟨none, [], 0, by rw [h]; rfl, ⟨.inl rfl, by simp⟩, by rw [h]; rfl, hb, (fun b hb => by cases hb)⟩

/- a plan in memory: the rows that the call itself has made, each apart from the others -/
def Sl.v (x : Sl) : Value := .slice x.a x.l.length x.c
def Sl.zero : Sl := ⟨none, 0, []⟩
structure PlanO (base : Nat) (av : List Nat) (w : World) (xs : List Sl) : Prop where
  own : ∀ i (h : i < xs.length), Own int1 1 3 base w xs[i].v xs[i].l
  av : ∀ i (h : i < xs.length) g, xs[i].v.ownBlock = some g → g ∉ av
  ap : ∀ i j (hi : i < xs.length) (hj : j < xs.length), i ≠ j → Apart xs[i].v xs[j].v
theorem PlanO.kept {base : Nat} {av : List Nat} {w w' : World} {xs : List Sl} (h : PlanO base av w xs) (hk : ∀ i (hi : i < xs.length) g, xs[i].v.ownBlock = some g → w'.heap[g]? = w.heap[g]?) : PlanO base av w' xs :=
  ⟨fun i hi => (h.own i hi).kept (hk i hi), h.av, h.ap⟩
theorem PlanO.below {base : Nat} {av : List Nat} {w w' : World} {xs : List Sl} (h : PlanO base av w xs) (hb : Below w.heap.size w w') : PlanO base av w' xs :=
  h.kept fun i hi g hg => hb.block g (World.ownsRow.lt (h.own i hi) g hg).2
theorem PlanO.oldB {base : Nat} {av : List Nat} {w w' : World} {xs : List Sl} {Bs : List Nat} (h : PlanO base av w xs) (ho : OldB Bs w w') (hn : ∀ b ∈ Bs, b < base) : PlanO base av w' xs :=
  h.kept fun i hi g hg => ho.block g (World.ownsRow.lt (h.own i hi) g hg).2 (fun hm => by have := (World.ownsRow.lt (h.own i hi) g hg).1; have := hn g hm; omega)
theorem PlanO.put {base : Nat} {av : List Nat} {w : World} {xs : List Sl} {X : Nat} {o : Obj} (h : PlanO base av w xs) (hX : X ∈ av) : PlanO base av (w.putObj X o) xs :=
  h.kept fun i hi g hg => World.putObj_heap_other (fun e => h.av i hi g hg (e ▸ hX))
theorem PlanO.avoid {base : Nat} {av : List Nat} {w : World} {xs : List Sl} (h : PlanO base av w xs) {av' : List Nat} (ha : ∀ b ∈ av', w.heap.size ≤ b) : PlanO base av' w xs :=
  ⟨h.own, fun i hi g hg hm => by have := (World.ownsRow.lt (h.own i hi) g hg).2; have := ha g hm; omega, h.ap⟩
theorem PlanO.start (base n : Nat) (w : World) : PlanO base [] w (List.replicate n Sl.zero) :=
  ⟨fun i hi => by rw [List.getElem_replicate]; exact Own.nil _ _ _ _ _, fun _ _ _ _ => by simp, fun i j hi hj _ g hg => by rw [List.getElem_replicate] at hg; simp [Sl.zero, Sl.v, Value.ownBlock] at hg⟩
/-- all but row j -/
def OwnX (base j : Nat) (xs : List Sl) (w : World) : Prop := ∀ i (h : i < xs.length), i ≠ j → Own int1 1 3 base w xs[i].v xs[i].l
theorem OwnX.alloc {base j : Nat} {xs : List Sl} {w : World} (h : OwnX base j xs w) (o : Obj) : OwnX base j xs (w.alloc o) := fun i hi hn => (h i hi hn).alloc o
theorem OwnX.grown {base j : Nat} {xs : List Sl} {w w' : World} (h : OwnX base j xs w) {hj : j < xs.length} (ap : ∀ i j (hi : i < xs.length) (hj : j < xs.length), i ≠ j → Apart xs[i].v xs[j].v) (hg : w.grownBy w' xs[j].v.ownBlock) : OwnX base j xs w' := fun i hi hn => Own.grown (h i hi hn) hg (ap i j hi hj hn)
theorem OwnX.setLow {base j Y q : Nat} {xs : List Sl} {w : World} (h : OwnX base j xs w) (hY : Y < base) (u : Value) : OwnX base j xs (w.setCell ⟨Y, q, none⟩ u) := fun i hi hn => (h i hi hn).setFar' hY u
theorem PlanO.step {base : Nat} {av : List Nat} {w w' : World} {xs : List Sl} (h : PlanO base av w xs) {j : Nat} (hj : j < xs.length) (hx : OwnX base j xs w') {x' : Sl} (hO : Own int1 1 3 base w' x'.v x'.l) (hV : ∀ g, x'.v.ownBlock = some g → xs[j].v.ownBlock = some g ∨ w.heap.size ≤ g) (hav : ∀ b ∈ av, b < w.heap.size) : PlanO base av w' (xs.set j x') := by
  have hne : ∀ i (hi : i < xs.length), i ≠ j → Apart xs[i].v x'.v := fun i hi hn g hg he => by
    rcases hV g he with e | e
    · exact h.ap i j hi hj hn g hg e
    · have := (World.ownsRow.lt (h.own i hi) g hg).2; omega
  refine ⟨fun i hi => ?_, fun i hi g hg hm => ?_, fun i m hi hm hn => ?_⟩
  · rw [List.length_set] at hi
    by_cases e : j = i
    · subst e; simp only [List.getElem_set_self]; exact hO
    · simp only [List.getElem_set_ne e]; exact hx i hi (fun e' => e e'.symm)
  · rw [List.length_set] at hi
    by_cases e : j = i
    · subst e
      simp only [List.getElem_set_self] at hg
      rcases hV g hg with e | e
      · exact h.av j hi g e hm
      · have := hav g hm; omega
    · simp only [List.getElem_set_ne e] at hg; exact h.av i hi g hg hm
  · rw [List.length_set] at hi hm
    by_cases e : j = i
    · subst e
      have e2 : j ≠ m := hn
      simp only [List.getElem_set_self, List.getElem_set_ne e2]
      exact (hne m hm (fun e' => e2 e'.symm)).symm
    · by_cases e2 : j = m
      · subst e2; simp only [List.getElem_set_self, List.getElem_set_ne e]; exact hne i hi (fun e' => e e'.symm)
      · simp only [List.getElem_set_ne e, List.getElem_set_ne e2]; exact h.ap i m hi hm hn
theorem sls_cell {w : World} {g : Nat} {l : List Sl} (h : Cells w g (l.flatMap Sl.cs)) {i : Nat} (hi : i < l.length) : w.cell? ⟨g, i, none⟩ = some l[i].v := by
  have := h.2.1 (i * 1 + 0) _ (flat_get Sl.cs 1 (fun _ => rfl) l i l[i] (List.getElem?_eq_getElem hi) 0 _ rfl)
  simpa [Sl.v] using this
theorem sls_set (x : Sl) : ∀ (l : List Sl) (i : Nat), (l.flatMap Sl.cs).set i x.v = (l.set i x).flatMap Sl.cs
  | [], i => by simp
  | y :: l, 0 => by simp [Sl.v]
  | y :: l, i + 1 => by
    have ih := sls_set x l i
    simp only [List.set_cons_succ, List.flatMap_cons, Sl.cs, List.cons_append, List.nil_append] at *
    rw [ih]
theorem made_sls (n : Nat) : (madeCells (Value.slice none 0 0).cells (n * 1)).toList = (List.replicate n Sl.zero).flatMap Sl.cs := by
  have h1 : (List.replicate n Sl.zero).flatMap Sl.cs = List.replicate n (Value.slice none 0 0) := by
    induction n with
    | zero => rfl
    | succ n ih => rw [List.replicate_succ, List.flatMap_cons, ih, List.replicate_succ]; rfl
  rw [h1]
  apply List.ext_getElem
  · simp [madeCells]
  · intro i h1 h2
    simp [madeCells, Value.cells, Nat.mod_one]
theorem Own.toSl {base : Nat} {w : World} {v : Value} {l : List Int} (h : Own int1 1 3 base w v l) : ∃ x : Sl, v = x.v ∧ x.l = l := by
  obtain ⟨a, c, hv, _, _⟩ := Own.slice (f := int1) (m := 1) (fun _ => rfl) h; exact ⟨⟨a, c, l⟩, hv, rfl⟩
theorem PlanO.plan {base : Nat} {av : List Nat} {w : World} {xs : List Sl} {b : Nat} (h : PlanO base av w xs) (hb : Cells w b (xs.flatMap Sl.cs)) : RdPlan w (some ⟨b, 0, none⟩) xs := by
  refine ⟨Cells.rd (f := Sl.cs) (m := 1) (fun _ => rfl) hb, fun x hx => ?_⟩; obtain ⟨i, hi, rfl⟩ := List.mem_iff_getElem.1 hx; exact Own.rd' (f := int1) (m := 1) (fun _ => rfl) (h.own i hi) rfl
abbrev ptr1 (V : Nat) : List Value := [.pointer (some ⟨V, 0, none⟩)]

end Go.Proofs.Ytndcmmghgljinaa
