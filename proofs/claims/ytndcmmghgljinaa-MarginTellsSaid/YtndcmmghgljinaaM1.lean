/- The plain model of valves: kinds, checks, which strengths are possible. -/
set_option linter.all false
namespace Go.Proofs.Ytndcmmghgljinaa

structure Span where
  lo : Int
  hi : Int
deriving DecidableEq
structure Stp where
  volt : Int
  need : Int
structure Kd where
  new : Int
  wear : Span
  steps : List Stp
structure MCk where
  hour : Int
  volt : Int
  passed : Bool
structure Fail where
  earliest : Int
  latest : Int
deriving DecidableEq
def Span.zero : Span := ⟨0, 0⟩
def Fail.zero : Fail := ⟨0, 0⟩
def Stp.zero : Stp := ⟨0, 0⟩

def inb (n lo hi : Int) : Bool := decide (lo ≤ n) && decide (n ≤ hi)
theorem inb_iff (n lo hi : Int) : inb n lo hi = true ↔ lo ≤ n ∧ n ≤ hi := by simp [inb]

theorem getD_get {α : Type} {l : List α} {i : Nat} (h : i < l.length) (d : α) : l.getD i d = l[i] := by simp [List.getD_eq_getElem?_getD, h]
/-- the error of step i -/
def stpErr (l : List Stp) (i : Nat) : Int :=
  if inb (l.getD i Stp.zero).volt 0 1000 = false ∨ inb (l.getD i Stp.zero).need 0 1000000 = false then 7
  else if (i = 0 ∧ (l.getD i Stp.zero).volt ≠ 1000) ∨ (0 < i ∧ ((l.getD (i - 1) Stp.zero).volt ≤ (l.getD i Stp.zero).volt ∨ (l.getD i Stp.zero).need < (l.getD (i - 1) Stp.zero).need)) then 2 else 0
def firstErr (f : Nat → Int) (n : Nat) : Option Nat := (List.range n).find? fun i => f i != 0
/-- the error of a kind -/
def kdErr (k : Kd) : Int :=
  if inb k.new 1 1000000 = false ∨ inb k.wear.lo 0 1000 = false ∨ inb k.wear.hi 0 1000 = false then 7
  else if k.wear.hi < k.wear.lo then 2
  else if k.steps.length = 0 ∨ 8 < k.steps.length then 3
  else match firstErr (stpErr k.steps) k.steps.length with
    | some i => stpErr k.steps i
    | none => 0

/-- what a valid kind is -/
structure KOk (k : Kd) : Prop where
  n0 : 1 ≤ k.new
  n1 : k.new ≤ 1000000
  w0 : 0 ≤ k.wear.lo
  w1 : k.wear.lo ≤ k.wear.hi
  w2 : k.wear.hi ≤ 1000
  l0 : 0 < k.steps.length
  l1 : k.steps.length ≤ 8
  st : ∀ i (h : i < k.steps.length), (0 ≤ k.steps[i].volt ∧ k.steps[i].volt ≤ 1000) ∧ (0 ≤ k.steps[i].need ∧ k.steps[i].need ≤ 1000000)
  top : k.steps[0].volt = 1000
  dn : ∀ i (h : i + 1 < k.steps.length), k.steps[i + 1].volt < k.steps[i].volt ∧ k.steps[i].need ≤ k.steps[i + 1].need
theorem firstErr_none {f : Nat → Int} {n : Nat} : firstErr f n = none ↔ ∀ i, i < n → f i = 0 := by
  unfold firstErr
  rw [List.find?_eq_none]
  constructor
  · intro h i hi; have := h i (by simpa using hi); simpa using this
  · intro h i hi; simp at hi; simp [h i hi]
theorem firstErr_some {f : Nat → Int} {n k : Nat} (hk : k < n) (h : ∀ i, i < k → f i = 0) (he : f k ≠ 0) : firstErr f n = some k := by
  unfold firstErr
  rw [List.find?_range_eq_some]
  exact ⟨by simpa using he, by simpa using hk, fun i hi => by simp [h i hi]⟩
theorem kok_of {k : Kd} (h : kdErr k = 0) : KOk k := by
  unfold kdErr at h
  split at h
  · cases h
  rename_i h1
  split at h
  · cases h
  rename_i h2
  split at h
  · cases h
  rename_i h3
  have h4 : ∀ i, i < k.steps.length → stpErr k.steps i = 0 := by
    cases hf : firstErr (stpErr k.steps) k.steps.length with
    | some i =>
      rw [hf] at h
      unfold firstErr at hf
      have := List.find?_some hf
      simp at this; exact absurd h this
    | none => exact firstErr_none.1 hf
  simp only [not_or, Bool.not_eq_false, inb_iff] at h1 h3
  have hl : 0 < k.steps.length := by omega
  have key : ∀ i (hi : i < k.steps.length), ((0 ≤ k.steps[i].volt ∧ k.steps[i].volt ≤ 1000) ∧ (0 ≤ k.steps[i].need ∧ k.steps[i].need ≤ 1000000)) ∧ (i = 0 → k.steps[i].volt = 1000) ∧ (∀ (h0 : 0 < i), k.steps[i].volt < (k.steps[i - 1]'(by omega)).volt ∧ (k.steps[i - 1]'(by omega)).need ≤ k.steps[i].need) := by
    intro i hi
    have h5 := h4 i hi
    unfold stpErr at h5
    rw [getD_get hi] at h5
    split at h5
    · cases h5
    rename_i h6
    split at h5
    · cases h5
    rename_i h7
    simp only [not_or, Bool.not_eq_false, inb_iff, not_and, Decidable.not_not] at h6 h7
    refine ⟨h6, h7.1, fun h0 => ?_⟩
    have := h7.2 h0
    rw [getD_get (show i - 1 < k.steps.length by omega)] at this
    omega
  exact ⟨h1.1.1, h1.1.2, h1.2.1.1, by omega, h1.2.2.2, hl, by omega, fun i hi => (key i hi).1, (key 0 hl).2.1 rfl, fun i hi => (key (i + 1) hi).2.2 (by omega)⟩

/-- whether a number is a voltage of a kind -/
def voltOk (k : Kd) (v : Int) : Bool := inb v ((k.steps.getD (k.steps.length - 1) Stp.zero).volt) 1000
/-- what is needed at a voltage -/
def needed (k : Kd) (v : Int) : Int := ((k.steps.find? fun s => decide (s.volt ≤ v)).getD Stp.zero).need
theorem needed_ex {k : Kd} (hK : KOk k) {v : Int} (hv : voltOk k v = true) : ∃ i, ∃ h : i < k.steps.length, k.steps[i].volt ≤ v ∧ (∀ j (hj : j < i), v < (k.steps[j]'(by omega)).volt) ∧ needed k v = k.steps[i].need := by
  unfold voltOk at hv
  rw [getD_get (show k.steps.length - 1 < k.steps.length by have := hK.l0; omega), inb_iff] at hv
  cases hf : k.steps.find? fun s => decide (s.volt ≤ v) with
  | none =>
    rw [List.find?_eq_none] at hf
    have := hf _ (List.getElem_mem (show k.steps.length - 1 < k.steps.length by have := hK.l0; omega))
    simp at this; omega
  | some s =>
    obtain ⟨h1, i, hi, rfl, h2⟩ := List.find?_eq_some_iff_getElem.1 hf
    refine ⟨i, hi, by simpa using h1, fun j hj => ?_, by unfold needed; rw [hf]; rfl⟩
    have := h2 j hj
    simpa using this
theorem needed_bd {k : Kd} (hK : KOk k) {v : Int} (hv : voltOk k v = true) : 0 ≤ needed k v ∧ needed k v ≤ 1000000 := by
  obtain ⟨i, hi, _, _, e⟩ := needed_ex hK hv
  rw [e]; exact (hK.st i hi).2

/-- hours later -/
def later (k : Kd) (s : Span) (d : Int) : Span := ⟨max 0 (s.lo - d * k.wear.hi), max 0 (s.hi - d * k.wear.lo)⟩
/-- with what a check agrees -/
def agreed (k : Kd) (s : Span) (v : Int) (p : Bool) : Span := if p then ⟨max s.lo (needed k v), s.hi⟩ else ⟨s.lo, min s.hi (needed k v - 1)⟩
/-- checks in order of their hours, those of an hour as they come -/
def insC (c : MCk) (l : List MCk) : List MCk := (l.takeWhile fun x => decide (x.hour ≤ c.hour)) ++ c :: l.dropWhile fun x => decide (x.hour ≤ c.hour)
def sortC (l : List MCk) : List MCk := l.foldl (fun o c => insC c o) []
/-- check by check: none where no strength is left -/
def runC (k : Kd) : List MCk → Span × Int → Option (Span × Int)
  | [], s => some s
  | c :: l, (s, h) =>
    let s' := agreed k (later k s (c.hour - h)) c.volt c.passed
    if s'.hi < s'.lo then none else runC k l (s', c.hour)
def known (k : Kd) (cs : List MCk) : Option (Span × Int) := runC k (sortC cs) (⟨k.new, k.new⟩, 0)
def chkOk (k : Kd) (c : MCk) : Bool := inb c.hour 0 100000 && voltOk k c.volt
/-- the error of a kind, checks and an hour; and the span -/
def asked (k : Kd) (cs : List MCk) (h : Int) : Span × Int :=
  if kdErr k ≠ 0 then (Span.zero, kdErr k)
  else if 30 < cs.length then (Span.zero, 3)
  else if cs.any (fun c => !chkOk k c) then (Span.zero, 7)
  else match known k cs with
    | none => (Span.zero, 9)
    | some (s, last) => if inb h 0 100000 = false then (Span.zero, 7) else if h < last then (Span.zero, 2) else (later k s (h - last), 0)

/- when it fails -/
def below (strength need wear : Int) : Int := if strength < need then 0 else if need = 0 ∨ wear = 0 then -1 else (strength - need + wear) / wear
def failAt (from0 n : Int) : Int := if n < 0 then n else n + from0
def failsOf (k : Kd) (s : Span) (from0 : Int) : Fail := ⟨failAt from0 (below s.lo (needed k 1000) k.wear.hi), failAt from0 (below s.hi (needed k 1000) k.wear.lo)⟩

end Go.Proofs.Ytndcmmghgljinaa
