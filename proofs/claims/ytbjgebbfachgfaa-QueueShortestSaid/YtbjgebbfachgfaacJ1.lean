/- Texts of this proof, joined: Base Pure Pure2 W1 W2 W3 W4 W5 W6 Pure3. -/
import Derived.Test.YtbjgebbfachgfaaRows
import Derived.WalkKit
import Derived.WalkSpells
import Derived.WalkLawsBesides
import Derived.Deep.QuietTactic
import Derived.BigQuiet
set_option linter.unusedVariables false
set_option linter.unusedSimpArgs false
set_option linter.unusedSectionVars false
set_option linter.all false
/- Small general lemmas on memory: a slice of rows that reads as a list; what a world keeps of an earlier one; facts hidden from the walk. -/
namespace Go.Proofs.Ytbjgebbfachgfaa
open Go.RowKit

theorem hid {p : Prop} (h : p) : Hid p := h

/-- the slice at a reads in w as the list l, each element the cells f x, m of them -/
def Rd {α : Type} (f : α → List Value) (m : Nat) (w : World) (a : Option Addr) (l : List α) : Prop :=
  l = [] ∨ ∃ b off, a = some ⟨b, off, none⟩ ∧ b < w.heap.size ∧
    ∀ i x, l[i]? = some x → ∀ j v, (f x)[j]? = some v → w.cell? ⟨b, off + i * m + j, none⟩ = some v

theorem Rd.nil {α : Type} (f : α → List Value) (m : Nat) (w : World) (a : Option Addr) : Rd f m w a [] := .inl rfl

/-- what was read is still read where old memory is kept -/
theorem Rd.at {α : Type} {f : α → List Value} {m : Nat} {w w' : World} {a : Option Addr} {l : List α} (h : Rd f m w a l) (hb : Below w.heap.size w w') : Rd f m w' a l := by
  rcases h with h | ⟨b, off, ha, hlt, hc⟩
  · exact .inl h
  · exact .inr ⟨b, off, ha, Nat.lt_of_lt_of_le hlt hb.size, fun i x hi j v hj => by rw [hb.cell (p := ⟨b, _, none⟩) hlt]; exact hc i x hi j v hj⟩

theorem Rd.ne {α : Type} {f : α → List Value} {m : Nat} {w : World} {a : Option Addr} {l : List α} (h : Rd f m w a l) {k : Nat} (hk : k < l.length) :
    ∃ b off, a = some ⟨b, off, none⟩ ∧ b < w.heap.size ∧ ∀ j v, (f l[k])[j]? = some v → w.cell? ⟨b, off + k * m + j, none⟩ = some v := by
  rcases h with h | ⟨b, off, ha, hlt, hc⟩
  · simp [h] at hk
  · exact ⟨b, off, ha, hlt, fun j v hj => hc k _ (List.getElem?_eq_getElem hk) j v hj⟩

/-- old cells and old marks, after a call that left old memory alone -/
theorem bcell {B : Nat} {W w1 : World} (hb : Below B W w1) : (∀ b o, b < B → w1.cell? ⟨b, o, none⟩ = W.cell? ⟨b, o, none⟩) ∧ (∀ b o, b < B → w1.frozen? ⟨b, o, none⟩ = W.frozen? ⟨b, o, none⟩) :=
  ⟨fun b o h => hb.cell (p := ⟨b, o, none⟩) h, fun b o h => hb.frozen (p := ⟨b, o, none⟩) h⟩

theorem below_alloc1 (w : World) (o : Obj) : Below w.heap.size w (w.alloc o) := (Below.refl _ _).alloc (Nat.le_refl _) _

theorem ret_bool {a b : Bool} (h : a = b) : Ending.returned (.bool a) = .returned (.bool b) := by rw [h]
theorem ret_int {k : IntKind} {a b : Int} (h : a = b) : Ending.returned (.int k a) = .returned (.int k b) := by rw [h]

end Go.Proofs.Ytbjgebbfachgfaa
/- The plain data of the queue's layer and what its small functions compute; no program in sight. -/
namespace Go.Proofs.Ytbjgebbfachgfaa

structure Rules where
  slice : Int
  load : Int
  dump : Int
  patience : Int
  rate : Int
deriving DecidableEq

structure Job where
  name : ByteArray
  arrive : Int
  claim : Int
  needs : Int

structure Fault where
  at0 : Int
  rep : Int
deriving DecidableEq

structure St where
  progress : Int
  since : Int
  charge : Int
  why : Int
  ended : Int
deriving DecidableEq

structure Spell where
  kind : Int
  job : Int
  from0 : Int
  until0 : Int
deriving DecidableEq

def inb (n lo hi : Int) : Bool := decide (lo ≤ n) && decide (n ≤ hi)
def Rules.ok (r : Rules) : Bool := inb r.slice 1 600 && inb r.load 0 30 && inb r.dump 0 30 && inb r.patience 0 5000 && inb r.rate 0 1000
def Job.numOk (j : Job) : Bool := inb j.arrive 0 5000 && inb j.claim 1 2000 && inb j.needs 1 2000
def Job.fin (j : Job) : Int := if j.needs < j.claim then j.needs else j.claim
def Rules.turn (r : Rules) : Int := r.load + r.slice + r.dump
def cmp3 (a b : Int) : Int := if a < b then -1 else if b < a then 1 else 0

theorem inb_iff (n lo hi : Int) : inb n lo hi = true ↔ lo ≤ n ∧ n ≤ hi := by simp [inb]
theorem Rules.ok_iff (r : Rules) : r.ok = true ↔ (1 ≤ r.slice ∧ r.slice ≤ 600) ∧ (0 ≤ r.load ∧ r.load ≤ 30) ∧ (0 ≤ r.dump ∧ r.dump ≤ 30) ∧ (0 ≤ r.patience ∧ r.patience ≤ 5000) ∧ (0 ≤ r.rate ∧ r.rate ≤ 1000) := by
  simp [Rules.ok, inb_iff, and_assoc]
theorem Job.numOk_iff (j : Job) : j.numOk = true ↔ (0 ≤ j.arrive ∧ j.arrive ≤ 5000) ∧ (1 ≤ j.claim ∧ j.claim ≤ 2000) ∧ (1 ≤ j.needs ∧ j.needs ≤ 2000) := by
  simp [Job.numOk, inb_iff, and_assoc]

theorem rules_bd {s l d p r : Int} (h : Rules.ok ⟨s, l, d, p, r⟩ = true) : (1 ≤ s ∧ s ≤ 600) ∧ (0 ≤ l ∧ l ≤ 30) ∧ (0 ≤ d ∧ d ≤ 30) ∧ (0 ≤ p ∧ p ≤ 5000) ∧ (0 ≤ r ∧ r ≤ 1000) := (Rules.ok_iff _).1 h
theorem job_bd {nm : ByteArray} {a c n : Int} (h : Job.numOk ⟨nm, a, c, n⟩ = true) : (0 ≤ a ∧ a ≤ 5000) ∧ (1 ≤ c ∧ c ≤ 2000) ∧ (1 ≤ n ∧ n ≤ 2000) := (Job.numOk_iff _).1 h

def chOk (k : Nat) (c : UInt8) : Bool := (decide (97 ≤ c.toNat) && decide (c.toNat ≤ 122)) || (k != 0 && (c.toNat == 95 || (decide (48 ≤ c.toNat) && decide (c.toNat ≤ 57))))
def nameOk (s : ByteArray) : Bool := decide (1 ≤ s.size) && decide (s.size ≤ 20) && (s.get! (s.size - 1)).toNat != 95 && (List.range s.size).all fun i => chOk i (s.get! i)

end Go.Proofs.Ytbjgebbfachgfaa
/- What the queue's functions compute, on plain data; no program in sight. -/
namespace Go.Proofs.Ytbjgebbfachgfaa

structure Work where
  rules : Rules
  jobs : List Job
  faults : List Fault

structure Qu where
  now : Int
  jobs : List St
deriving DecidableEq

structure Tot where
  run : Int
  lost : Int
  repair : Int
  idle : Int
deriving DecidableEq

def Job.zero : Job := ⟨ByteArray.empty, 0, 0, 0⟩
def St.zero : St := ⟨0, 0, 0, 0, 0⟩
def Fault.zero : Fault := ⟨0, 0⟩
def Spell.zero : Spell := ⟨0, 0, 0, 0⟩
def Qu.zero : Qu := ⟨0, []⟩
def Tot.zero : Tot := ⟨0, 0, 0, 0⟩

def Work.job (W : Work) (i : Nat) : Job := W.jobs.getD i Job.zero
def Work.flt (W : Work) (i : Nat) : Fault := W.faults.getD i Fault.zero
def Qu.st (q : Qu) (i : Nat) : St := q.jobs.getD i St.zero
theorem Work.job_eq {W : Work} {i : Nat} (h : i < W.jobs.length) : W.job i = W.jobs[i] := by simp [Work.job, h]
theorem Work.flt_eq {W : Work} {i : Nat} (h : i < W.faults.length) : W.flt i = W.faults[i] := by simp [Work.flt, h]
theorem Qu.st_eq {q : Qu} {i : Nat} (h : i < q.jobs.length) : q.st i = q.jobs[i] := by simp [Qu.st, h]

def waits (l : List St) : Bool := l.any fun s => s.why == 0

/- Check -/
def jobErr (js : List Job) (i : Nat) : Int :=
  if nameOk (js.getD i Job.zero).name = false then 6
  else if (js.take i).any (fun j => j.name.toList == (js.getD i Job.zero).name.toList) = true then 5
  else if (js.getD i Job.zero).numOk = false then 7 else 0
def fltErr (fs : List Fault) (i : Nat) : Int :=
  if inb (fs.getD i Fault.zero).at0 0 5000 = false ∨ inb (fs.getD i Fault.zero).rep 1 5000 = false then 7
  else if 0 < i ∧ (fs.getD i Fault.zero).at0 < (fs.getD (i - 1) Fault.zero).at0 + (fs.getD (i - 1) Fault.zero).rep then 2 else 0
def firstErr (f : Nat → Int) (n : Nat) : Option Nat := (List.range n).find? fun i => f i != 0
def check (W : Work) : Int × Int × Int :=
  if W.rules.ok = false then (1, 0, 7)
  else if 12 < W.jobs.length ∨ 20 < W.faults.length then (1, 0, 3)
  else match firstErr (jobErr W.jobs) W.jobs.length with
    | some i => (2, i, jobErr W.jobs i)
    | none => match firstErr (fltErr W.faults) W.faults.length with
      | some i => (3, i, fltErr W.faults i)
      | none => (0, 0, 0)
def Work.err (W : Work) : Int := (check W).2.2

theorem firstErr_none {f : Nat → Int} {n : Nat} (h : ∀ i, i < n → f i = 0) : firstErr f n = none := by
  unfold firstErr
  rw [List.find?_eq_none]
  intro i hi
  simp at hi
  simp [h i hi]
theorem firstErr_some {f : Nat → Int} {n k : Nat} (hk : k < n) (h : ∀ i, i < k → f i = 0) (he : f k ≠ 0) : firstErr f n = some k := by
  unfold firstErr
  rw [List.find?_range_eq_some]
  exact ⟨by simpa using he, by simpa using hk, fun i hi => by simp [h i hi]⟩
theorem firstErr_eq_none {f : Nat → Int} {n : Nat} (h : firstErr f n = none) : ∀ i, i < n → f i = 0 := by
  unfold firstErr at h
  rw [List.find?_eq_none] at h
  intro i hi
  simpa using h i (by simpa using hi)

/- Begin -/
def beginQ (W : Work) : Qu := ⟨0, W.jobs.map fun j => ⟨0, j.arrive, 0, 0, -1⟩⟩

/- Next -/
def Work.nextFault (W : Work) (now : Int) : Int := match W.faults.find? (fun f => decide (now < f.at0)) with | some f => f.at0 | none => -1
def Work.repairAt (W : Work) (now : Int) : Option Fault := W.faults.find? fun f => decide (f.at0 ≤ now) && decide (now < f.at0 + f.rep)
def cand (W : Work) (q : Qu) (i : Nat) : Bool := (q.st i).why == 0 && decide ((W.job i).arrive ≤ q.now)
def overdue (W : Work) (q : Qu) (i : Nat) : Bool := (q.st i).why == 0 && decide ((W.job i).arrive ≤ q.now) && decide (W.rules.patience ≤ q.now - (q.st i).since)
def before (W : Work) (q : Qu) (a b : Nat) : Bool :=
  if overdue W q a != overdue W q b then overdue W q a
  else if overdue W q a = false ∧ (W.job a).claim - (q.st a).progress ≠ (W.job b).claim - (q.st b).progress then decide ((W.job a).claim - (q.st a).progress < (W.job b).claim - (q.st b).progress)
  else decide ((q.st a).since < (q.st b).since)
def takenUpto (W : Work) (q : Qu) : Nat → Int
  | 0 => -1
  | k + 1 => if cand W q k && (decide (takenUpto W q k < 0) || before W q k (takenUpto W q k).toNat) then k else takenUpto W q k
def idleUpto (W : Work) (q : Qu) : Nat → Int
  | 0 => W.nextFault q.now
  | k + 1 => if (q.st k).why == 0 && (decide (idleUpto W q k < 0) || decide ((W.job k).arrive < idleUpto W q k)) then (W.job k).arrive else idleUpto W q k

def minutesOf (W : Work) (q : Qu) (k : Nat) : Int := if (W.job k).fin - (q.st k).progress < W.rules.slice then (W.job k).fin - (q.st k).progress else W.rules.slice
def doneOf (W : Work) (q : Qu) (k : Nat) : Bool := (q.st k).progress + minutesOf W q k == (W.job k).fin
def endOf (W : Work) (q : Qu) (k : Nat) : Int := if doneOf W q k then q.now + W.rules.load + minutesOf W q k else q.now + W.rules.load + minutesOf W q k + W.rules.dump
def kindOf (W : Work) (q : Qu) (k : Nat) : Int := if doneOf W q k then (if (W.job k).fin == (W.job k).needs then 2 else 3) else 1
def stAfter (W : Work) (q : Qu) (k : Nat) : St :=
  { progress := (q.st k).progress + minutesOf W q k
    since := endOf W q k
    charge := (q.st k).charge + (endOf W q k - q.now) * W.rules.rate
    why := if doneOf W q k then (if (W.job k).fin == (W.job k).needs then 1 else 2) else (q.st k).why
    ended := if doneOf W q k then endOf W q k else (q.st k).ended }
def runStep (W : Work) (q : Qu) (k : Nat) : Spell × Qu :=
  if 0 ≤ W.nextFault q.now ∧ W.nextFault q.now < endOf W q k then (⟨4, k, q.now, W.nextFault q.now⟩, ⟨W.nextFault q.now, q.jobs⟩)
  else (⟨kindOf W q k, k, q.now, endOf W q k⟩, ⟨endOf W q k, q.jobs.set k (stAfter W q k)⟩)
def nextStep (W : Work) (q : Qu) : Spell × Qu :=
  match W.repairAt q.now with
  | some f => (⟨5, -1, q.now, f.at0 + f.rep⟩, ⟨f.at0 + f.rep, q.jobs⟩)
  | none =>
    if takenUpto W q q.jobs.length < 0 then (⟨6, -1, q.now, idleUpto W q q.jobs.length⟩, ⟨idleUpto W q q.jobs.length, q.jobs⟩)
    else runStep W q (takenUpto W q q.jobs.length).toNat

def stOk (j : Job) (s : St) : Bool :=
  inb s.progress 0 j.fin && inb s.since 0 1000000 && inb s.charge 0 1000000000 && inb s.why 0 2 && inb s.ended (-1) 1000000 && !(s.why == 0 && s.progress == j.fin)
def quErr (W : Work) (q : Qu) : Int :=
  if q.jobs.length ≠ W.jobs.length then 2
  else if inb q.now 0 1000000 = false then 7
  else if ∃ i, i < q.jobs.length ∧ stOk (W.job i) (q.st i) = false then 7
  else if waits q.jobs = false then 9 else 0
def nextErr (W : Work) (q : Qu) : Int := if W.err = 0 then quErr W q else W.err
def nextRes (W : Work) (q : Qu) : Spell × Qu × Int := if nextErr W q = 0 then ((nextStep W q).1, (nextStep W q).2, 0) else (Spell.zero, Qu.zero, nextErr W q)

/- Day, Bill -/
def dayLoop (W : Work) (till : Int) : Nat → Qu → List Spell × Qu
  | 0, q => ([], q)
  | n + 1, q => if decide (q.now < till) && waits q.jobs then ((nextStep W q).1 :: (dayLoop W till n (nextStep W q).2).1, (dayLoop W till n (nextStep W q).2).2) else ([], q)
def dayErr (W : Work) (till : Int) : Int := if W.err = 0 then (if inb till 0 5000 then 0 else 7) else W.err
def day (W : Work) (till : Int) : List Spell × Qu := if dayErr W till = 0 then dayLoop W till till.toNat (beginQ W) else ([], Qu.zero)
def totAdd (t : Tot) (s : Spell) : Tot :=
  { run := if inb s.kind 1 3 then t.run + (s.until0 - s.from0) else t.run
    lost := if s.kind == 4 then t.lost + (s.until0 - s.from0) else t.lost
    repair := if s.kind == 5 then t.repair + (s.until0 - s.from0) else t.repair
    idle := if s.kind == 6 then t.idle + (s.until0 - s.from0) else t.idle }
def totals (l : List Spell) : Tot := l.foldl totAdd Tot.zero
def charges (q : Qu) : List Int := q.jobs.map St.charge

/- Quote, Longest -/
def quoteErr (r : Rules) (j : Job) : Int := if r.ok && j.numOk then 0 else 7
def quote (r : Rules) (j : Job) : Int := if r.ok && j.numOk then (j.fin + ((j.fin - 1) / r.slice + 1) * r.load + (j.fin - 1) / r.slice * r.dump) * r.rate else 0
def longErr (r : Rules) (n : Int) : Int := if r.ok && inb n 1 12 then 0 else 7
def longest (r : Rules) (n : Int) : Int := if r.ok && inb n 1 12 then r.patience + n * r.turn else 0

end Go.Proofs.Ytbjgebbfachgfaa
/- The contracts of the small functions that only compute. -/
namespace Go.Proofs.Ytbjgebbfachgfaa
open Go.RowKit

set_option maxHeartbeats 400000 in
theorem refin_any (a b c : Int) (w : World) : Calls Try.prog 49 #[.int .i64 a, .int .i64 b, .int .i64 c] w fun e w' => e = .returned (.bool (inb a b c)) ∧ w = w' := by
  unfold inb
  go_enter Try.func49, Try.ntmps49
  go_wp2
  all_goals go_ret
  all_goals (refine ⟨ret_bool ?_, rfl⟩; simp; omega)
set_option maxHeartbeats 400000 in
theorem ref1in_any (a b c : Int) (w : World) : Calls Try.prog 62 #[.int .i64 a, .int .i64 b, .int .i64 c] w fun e w' => e = .returned (.bool (inb a b c)) ∧ w = w' := by
  unfold inb
  go_enter Try.func62, Try.ntmps62
  go_wp2
  all_goals go_ret
  all_goals (refine ⟨ret_bool ?_, rfl⟩; simp; omega)
set_option maxHeartbeats 400000 in
theorem qout_any (a b c : Int) (w : World) : Calls Try.prog 46 #[.int .i64 a, .int .i64 b, .int .i64 c] w fun e w' => e = .returned (.bool (!inb a b c)) ∧ w = w' := by
  unfold inb
  go_enter Try.func46, Try.ntmps46
  go_wp2
  all_goals go_ret
  all_goals (refine ⟨ret_bool ?_, rfl⟩; rw [Bool.eq_iff_iff]; simp; try omega)
set_option maxHeartbeats 400000 in
theorem lout_any (a b c : Int) (w : World) : Calls Try.prog 61 #[.int .i64 a, .int .i64 b, .int .i64 c] w fun e w' => e = .returned (.bool (!inb a b c)) ∧ w = w' := by
  unfold inb
  go_enter Try.func61, Try.ntmps61
  go_wp2
  all_goals go_ret
  all_goals (refine ⟨ret_bool ?_, rfl⟩; rw [Bool.eq_iff_iff]; simp; try omega)
set_option maxHeartbeats 400000 in
theorem most_any (w : World) : Calls Try.prog 68 #[] w fun e w' => e = .returned (.int .i64 1000000) ∧ w = w' := by
  go_enter Try.func68, Try.ntmps68
  go_wp2
  go_ret
  exact ⟨rfl, rfl⟩
set_option maxHeartbeats 400000 in
theorem isNaN_any (a : Int) (w : World) : Calls Try.prog 83 #[.int .i64 a] w fun e w' => e = .returned (.bool false) ∧ w = w' := by
  go_enter Try.func83, Try.ntmps83
  go_wp2
  all_goals go_ret
  all_goals (refine ⟨ret_bool ?_, rfl⟩; simp)
set_option maxHeartbeats 400000 in
theorem cmpCompare_any (a b : Int) (w : World) : Calls Try.prog 82 #[.int .i64 a, .int .i64 b] w fun e w' => e = .returned (.int .i64 (cmp3 a b)) ∧ w = w' := by
  unfold cmp3
  go_enter Try.func82, Try.ntmps82
  go_wp2_with (go_at_call 83; refine (isNaN_any _ _).mono ?_; rintro e w' ⟨rfl, rfl⟩)
  all_goals go_ret
  all_goals (refine ⟨ret_int ?_, rfl⟩; simp [*]; try omega)
set_option maxHeartbeats 400000 in
theorem rrules_any (s l d p r : Int) (w : World) :
    Calls Try.prog 42 #[.agg #[.int .i64 s, .int .i64 l, .int .i64 d, .int .i64 p, .int .i64 r]] w fun e w' => e = .returned (.bool (Rules.ok ⟨s, l, d, p, r⟩)) ∧ w.alloc (.cells #[.int .i64 s, .int .i64 l, .int .i64 d, .int .i64 p, .int .i64 r] 23) = w' := by
  unfold Rules.ok
  go_enter Try.func42, Try.ntmps42
  go_wp2_with (go_at_call 49; refine (refin_any _ _ _ _).mono ?_; rintro e w' ⟨rfl, rfl⟩)
  all_goals go_ret
  all_goals (refine ⟨ret_bool ?_, rfl⟩; simp [*])
set_option maxHeartbeats 400000 in
theorem qodd_any (s l d p r : Int) (w : World) :
    Calls Try.prog 43 #[.agg #[.int .i64 s, .int .i64 l, .int .i64 d, .int .i64 p, .int .i64 r]] w fun e w' => e = .returned (.bool (!Rules.ok ⟨s, l, d, p, r⟩)) ∧ w.alloc (.cells #[.int .i64 s, .int .i64 l, .int .i64 d, .int .i64 p, .int .i64 r] 23) = w' := by
  unfold Rules.ok
  go_enter Try.func43, Try.ntmps43
  go_wp2_with (go_at_call 46; refine (qout_any _ _ _ _).mono ?_; rintro e w' ⟨rfl, rfl⟩)
  all_goals go_ret
  all_goals (refine ⟨ret_bool ?_, rfl⟩; simp_all)
set_option maxHeartbeats 400000 in
theorem rnumbers_any (nm : ByteArray) (a c n : Int) (w : World) :
    Calls Try.prog 48 #[.agg #[.string nm, .int .i64 a, .int .i64 c, .int .i64 n]] w fun e w' => e = .returned (.bool (Job.numOk ⟨nm, a, c, n⟩)) ∧ w.alloc (.cells #[.string nm, .int .i64 a, .int .i64 c, .int .i64 n] 56) = w' := by
  unfold Job.numOk
  go_enter Try.func48, Try.ntmps48
  go_wp2_with (go_at_call 49; refine (refin_any _ _ _ _).mono ?_; rintro e w' ⟨rfl, rfl⟩)
  all_goals go_ret
  all_goals (refine ⟨ret_bool ?_, rfl⟩; simp [*])
set_option maxHeartbeats 400000 in
theorem qstrange_any (nm : ByteArray) (a c n : Int) (w : World) :
    Calls Try.prog 45 #[.agg #[.string nm, .int .i64 a, .int .i64 c, .int .i64 n]] w fun e w' => e = .returned (.bool (!Job.numOk ⟨nm, a, c, n⟩)) ∧ w.alloc (.cells #[.string nm, .int .i64 a, .int .i64 c, .int .i64 n] 56) = w' := by
  unfold Job.numOk
  go_enter Try.func45, Try.ntmps45
  go_wp2_with (go_at_call 46; refine (qout_any _ _ _ _).mono ?_; rintro e w' ⟨rfl, rfl⟩)
  all_goals go_ret
  all_goals (refine ⟨ret_bool ?_, rfl⟩; simp_all)
set_option maxHeartbeats 400000 in
theorem rend_any (nm : ByteArray) (a c n : Int) (w : World) :
    Calls Try.prog 39 #[.agg #[.string nm, .int .i64 a, .int .i64 c, .int .i64 n]] w fun e w' => e = .returned (.int .i64 (Job.fin ⟨nm, a, c, n⟩)) ∧ w.alloc (.cells #[.string nm, .int .i64 a, .int .i64 c, .int .i64 n] 56) = w' := by
  unfold Job.fin
  go_enter Try.func39, Try.ntmps39
  go_wp2
  all_goals go_ret
  all_goals (refine ⟨ret_int ?_, rfl⟩; simp; try omega)
set_option maxHeartbeats 400000 in
theorem qend_any (nm : ByteArray) (a c n : Int) (w : World) :
    Calls Try.prog 52 #[.agg #[.string nm, .int .i64 a, .int .i64 c, .int .i64 n]] w fun e w' => e = .returned (.int .i64 (Job.fin ⟨nm, a, c, n⟩)) ∧ w.alloc (.cells #[.string nm, .int .i64 a, .int .i64 c, .int .i64 n] 56) = w' := by
  unfold Job.fin
  go_enter Try.func52, Try.ntmps52
  go_wp2
  all_goals go_ret
  all_goals (refine ⟨ret_int ?_, rfl⟩; simp; try omega)
set_option maxHeartbeats 400000 in
theorem rturn_any (s l d p r : Int) (w : World) (hr : Rules.ok ⟨s, l, d, p, r⟩ = true) :
    Calls Try.prog 60 #[.agg #[.int .i64 s, .int .i64 l, .int .i64 d, .int .i64 p, .int .i64 r]] w fun e w' => e = .returned (.int .i64 (Rules.turn ⟨s, l, d, p, r⟩)) ∧ w.alloc (.cells #[.int .i64 s, .int .i64 l, .int .i64 d, .int .i64 p, .int .i64 r] 23) = w' := by
  unfold Rules.turn
  obtain ⟨⟨_, _⟩, ⟨_, _⟩, ⟨_, _⟩, ⟨_, _⟩, _, _⟩ := rules_bd hr
  clear hr
  go_enter Try.func60, Try.ntmps60
  go_wp2
  go_ret
  exact ⟨rfl, rfl⟩
end Go.Proofs.Ytbjgebbfachgfaa
/- The contracts of the functions that read a list. -/
namespace Go.Proofs.Ytbjgebbfachgfaa
open Go.RowKit

def St.cs (s : St) : List Value := [.int .i64 s.progress, .int .i64 s.since, .int .i64 s.charge, .int .i64 s.why, .int .i64 s.ended]
abbrev RdSts := Rd St.cs 5
def Spell.cs (s : Spell) : List Value := [.int .i64 s.kind, .int .i64 s.job, .int .i64 s.from0, .int .i64 s.until0]
abbrev RdSpells := Rd Spell.cs 4
def Job.cs (j : Job) : List Value := [.string j.name, .int .i64 j.arrive, .int .i64 j.claim, .int .i64 j.needs]
abbrev RdJobs := Rd Job.cs 4
def Fault.cs (f : Fault) : List Value := [.int .i64 f.at0, .int .i64 f.rep]
abbrev RdFaults := Rd Fault.cs 2
abbrev RdInts := Rd (fun n : Int => [Value.int .i64 n]) 1

theorem RdSts.ne {w : World} {a : Option Addr} {l : List St} (h : RdSts w a l) {k : Nat} (hk : k < l.length) :
    ∃ b off, a = some ⟨b, off, none⟩ ∧ b < w.heap.size ∧ w.cell? ⟨b, off + k * 5, none⟩ = some (.int .i64 l[k].progress) ∧ w.cell? ⟨b, off + k * 5 + 1, none⟩ = some (.int .i64 l[k].since) ∧
      w.cell? ⟨b, off + k * 5 + 2, none⟩ = some (.int .i64 l[k].charge) ∧ w.cell? ⟨b, off + k * 5 + 3, none⟩ = some (.int .i64 l[k].why) ∧ w.cell? ⟨b, off + k * 5 + 4, none⟩ = some (.int .i64 l[k].ended) := by
  obtain ⟨b, off, ha, hb, hc⟩ := Rd.ne h hk
  exact ⟨b, off, ha, hb, hc 0 _ rfl, hc 1 _ rfl, hc 2 _ rfl, hc 3 _ rfl, hc 4 _ rfl⟩
theorem RdSpells.ne {w : World} {a : Option Addr} {l : List Spell} (h : RdSpells w a l) {k : Nat} (hk : k < l.length) :
    ∃ b off, a = some ⟨b, off, none⟩ ∧ b < w.heap.size ∧ w.cell? ⟨b, off + k * 4, none⟩ = some (.int .i64 l[k].kind) ∧ w.cell? ⟨b, off + k * 4 + 1, none⟩ = some (.int .i64 l[k].job) ∧
      w.cell? ⟨b, off + k * 4 + 2, none⟩ = some (.int .i64 l[k].from0) ∧ w.cell? ⟨b, off + k * 4 + 3, none⟩ = some (.int .i64 l[k].until0) := by
  obtain ⟨b, off, ha, hb, hc⟩ := Rd.ne h hk
  exact ⟨b, off, ha, hb, hc 0 _ rfl, hc 1 _ rfl, hc 2 _ rfl, hc 3 _ rfl⟩
theorem RdJobs.ne {w : World} {a : Option Addr} {l : List Job} (h : RdJobs w a l) {k : Nat} (hk : k < l.length) :
    ∃ b off, a = some ⟨b, off, none⟩ ∧ b < w.heap.size ∧ w.cell? ⟨b, off + k * 4, none⟩ = some (.string l[k].name) ∧ w.cell? ⟨b, off + k * 4 + 1, none⟩ = some (.int .i64 l[k].arrive) ∧
      w.cell? ⟨b, off + k * 4 + 2, none⟩ = some (.int .i64 l[k].claim) ∧ w.cell? ⟨b, off + k * 4 + 3, none⟩ = some (.int .i64 l[k].needs) := by
  obtain ⟨b, off, ha, hb, hc⟩ := Rd.ne h hk
  exact ⟨b, off, ha, hb, hc 0 _ rfl, hc 1 _ rfl, hc 2 _ rfl, hc 3 _ rfl⟩
theorem RdFaults.ne {w : World} {a : Option Addr} {l : List Fault} (h : RdFaults w a l) {k : Nat} (hk : k < l.length) :
    ∃ b off, a = some ⟨b, off, none⟩ ∧ b < w.heap.size ∧ w.cell? ⟨b, off + k * 2, none⟩ = some (.int .i64 l[k].at0) ∧ w.cell? ⟨b, off + k * 2 + 1, none⟩ = some (.int .i64 l[k].rep) := by
  obtain ⟨b, off, ha, hb, hc⟩ := Rd.ne h hk
  exact ⟨b, off, ha, hb, hc 0 _ rfl, hc 1 _ rfl⟩
theorem RdInts.ne {w : World} {a : Option Addr} {l : List Int} (h : RdInts w a l) {k : Nat} (hk : k < l.length) :
    ∃ b off, a = some ⟨b, off, none⟩ ∧ b < w.heap.size ∧ w.cell? ⟨b, off + k, none⟩ = some (.int .i64 l[k]) := by
  obtain ⟨b, off, ha, hb, hc⟩ := Rd.ne h hk
  exact ⟨b, off, ha, hb, by simpa using hc 0 _ rfl⟩


theorem Rd.get {α : Type} {f : α → List Value} {m : Nat} {w : World} {b off : Nat} {l : List α} (h : Rd f m w (some ⟨b, off, none⟩) l) {k : Nat} (hk : k < l.length) :
    b < w.heap.size ∧ ∀ j v, (f l[k])[j]? = some v → w.cell? ⟨b, off + k * m + j, none⟩ = some v := by
  obtain ⟨b', off', he, hb, hc⟩ := Rd.ne h hk
  cases he
  exact ⟨hb, hc⟩
theorem RdSts.get {w : World} {b off : Nat} {l : List St} (h : RdSts w (some ⟨b, off, none⟩) l) {k : Nat} (hk : k < l.length) :
    b < w.heap.size ∧ w.cell? ⟨b, off + k * 5, none⟩ = some (.int .i64 l[k].progress) ∧ w.cell? ⟨b, off + k * 5 + 1, none⟩ = some (.int .i64 l[k].since) ∧
      w.cell? ⟨b, off + k * 5 + 2, none⟩ = some (.int .i64 l[k].charge) ∧ w.cell? ⟨b, off + k * 5 + 3, none⟩ = some (.int .i64 l[k].why) ∧ w.cell? ⟨b, off + k * 5 + 4, none⟩ = some (.int .i64 l[k].ended) := by
  obtain ⟨hb, hc⟩ := Rd.get h hk
  exact ⟨hb, hc 0 _ rfl, hc 1 _ rfl, hc 2 _ rfl, hc 3 _ rfl, hc 4 _ rfl⟩
theorem RdSpells.get {w : World} {b off : Nat} {l : List Spell} (h : RdSpells w (some ⟨b, off, none⟩) l) {k : Nat} (hk : k < l.length) :
    b < w.heap.size ∧ w.cell? ⟨b, off + k * 4, none⟩ = some (.int .i64 l[k].kind) ∧ w.cell? ⟨b, off + k * 4 + 1, none⟩ = some (.int .i64 l[k].job) ∧
      w.cell? ⟨b, off + k * 4 + 2, none⟩ = some (.int .i64 l[k].from0) ∧ w.cell? ⟨b, off + k * 4 + 3, none⟩ = some (.int .i64 l[k].until0) := by
  obtain ⟨hb, hc⟩ := Rd.get h hk
  exact ⟨hb, hc 0 _ rfl, hc 1 _ rfl, hc 2 _ rfl, hc 3 _ rfl⟩
theorem RdJobs.get {w : World} {b off : Nat} {l : List Job} (h : RdJobs w (some ⟨b, off, none⟩) l) {k : Nat} (hk : k < l.length) :
    b < w.heap.size ∧ w.cell? ⟨b, off + k * 4, none⟩ = some (.string l[k].name) ∧ w.cell? ⟨b, off + k * 4 + 1, none⟩ = some (.int .i64 l[k].arrive) ∧
      w.cell? ⟨b, off + k * 4 + 2, none⟩ = some (.int .i64 l[k].claim) ∧ w.cell? ⟨b, off + k * 4 + 3, none⟩ = some (.int .i64 l[k].needs) := by
  obtain ⟨hb, hc⟩ := Rd.get h hk
  exact ⟨hb, hc 0 _ rfl, hc 1 _ rfl, hc 2 _ rfl, hc 3 _ rfl⟩
theorem RdFaults.get {w : World} {b off : Nat} {l : List Fault} (h : RdFaults w (some ⟨b, off, none⟩) l) {k : Nat} (hk : k < l.length) :
    b < w.heap.size ∧ w.cell? ⟨b, off + k * 2, none⟩ = some (.int .i64 l[k].at0) ∧ w.cell? ⟨b, off + k * 2 + 1, none⟩ = some (.int .i64 l[k].rep) := by
  obtain ⟨hb, hc⟩ := Rd.get h hk
  exact ⟨hb, hc 0 _ rfl, hc 1 _ rfl⟩
theorem RdInts.get {w : World} {b off : Nat} {l : List Int} (h : RdInts w (some ⟨b, off, none⟩) l) {k : Nat} (hk : k < l.length) :
    b < w.heap.size ∧ w.cell? ⟨b, off + k, none⟩ = some (.int .i64 l[k]) := by
  obtain ⟨hb, hc⟩ := Rd.get h hk
  exact ⟨hb, by simpa using hc 0 _ rfl⟩

/-- some element before k answers yes -/
theorem any_take_succ {α : Type} (p : α → Bool) (l : List α) (k : Nat) (hk : k < l.length) : (l.take (k + 1)).any p = ((l.take k).any p || p l[k]) := by
  rw [List.take_succ_eq_append_getElem hk, List.any_append]; simp
theorem all_take_succ {α : Type} (p : α → Bool) (l : List α) (k : Nat) (hk : k < l.length) : (l.take (k + 1)).all p = ((l.take k).all p && p l[k]) := by
  rw [List.take_succ_eq_append_getElem hk, List.all_append]; simp
theorem any_of_get {α : Type} (p : α → Bool) (l : List α) (k : Nat) (hk : k < l.length) (h : p l[k] = true) : l.any p = true :=
  List.any_eq_true.2 ⟨l[k], List.getElem_mem hk, h⟩

set_option maxHeartbeats 400000 in
theorem rwaits_any (now : Int) (a : Option Addr) (cap : Nat) (l : List St) (w : World) (hl : l.length ≤ 9223372036854775807) (hr : RdSts w a l) :
    Calls Try.prog 36 #[.agg #[.int .i64 now, .slice a l.length cap]] w fun e w' => e = .returned (.bool (waits l)) ∧ Below w.heap.size w w' := by
  go_enter Try.func36, Try.ntmps36
  go_wp2_with fail
  go_loop [3] (fun i => ∃ k : Nat, k ≤ l.length ∧ i = .int .i64 k ∧ Hid ((l.take k).any (fun s => s.why == 0) = false)) (fun i => l.length - (intOf i).toNat)
  case atStart => exact ⟨0, Nat.zero_le _, rfl, hid rfl⟩
  case round =>
    obtain ⟨k, hk, rfl, hw⟩ := hrel
    by_cases hlt : k < l.length
    · obtain ⟨b, off, rfl, hb, h0, h1, h2, h3, h4⟩ := RdSts.ne hr hlt
      by_cases hy : l[k].why = 0
      · have hy' : (l[k].why == 0) = true := by simp [hy]
        have Hy := hid hy; clear hy
        go_wp2
        go_ret
        exact ⟨ret_bool (any_of_get _ l k hlt hy').symm, below_alloc1 _ _⟩
      · have hy' : (l[k].why == 0) = false := by simp [hy]
        clear hy
        go_wp2
        go_round
        case rel => exact ⟨k + 1, by omega, by go_num, hid (by rw [any_take_succ _ _ _ hlt, hw.out, hy']; rfl)⟩
        case measure => simp [intOf]; omega
    · go_wp2
      go_ret
      exact ⟨ret_bool (by have := hw.out; rw [List.take_of_length_le (by omega)] at this; exact this.symm), below_alloc1 _ _⟩

end Go.Proofs.Ytbjgebbfachgfaa
/- The contracts of the comparisons of two lists. -/
namespace Go.Proofs.Ytbjgebbfachgfaa
open Go.RowKit

theorem bdrewN {B : Nat} {a w : World} (h : Below B a w) (n : Nat) : Below B a (w.drewN n) := ⟨h.os, h.tape, h.output, h.size, h.block⟩

theorem eq_of_take {α : Type} [DecidableEq α] {x y : List α} (hl : x.length = y.length) {k : Nat} (hk : x.length ≤ k) (h : x.take k = y.take k) : x = y := by
  rw [List.take_of_length_le hk, List.take_of_length_le (by omega)] at h; exact h
theorem take_succ_eq {α : Type} {x y : List α} {k : Nat} (hx : k < x.length) (hy : k < y.length) (h : x.take k = y.take k) (hk : x[k] = y[k]) : x.take (k + 1) = y.take (k + 1) := by
  rw [List.take_succ_eq_append_getElem hx, List.take_succ_eq_append_getElem hy, h, hk]
theorem ne_of_get {α : Type} {x y : List α} {k : Nat} (hx : k < x.length) (hy : k < y.length) (h : x[k] ≠ y[k]) : x ≠ y := by
  intro e; subst e; exact h rfl

set_option maxHeartbeats 400000 in
theorem r4ints_any (a b : Option Addr) (ca cb : Nat) (x y : List Int) (w : World) (hx : x.length ≤ 9223372036854775807) (hy : y.length ≤ 9223372036854775807) (ha : RdInts w a x) (hb : RdInts w b y) :
    Calls Try.prog 59 #[.slice a x.length ca, .slice b y.length cb] w fun e w' => e = .returned (.bool (decide (x = y))) ∧ Below w.heap.size w w' := by
  by_cases hlen : x.length = y.length
  · have h0 : ((x.length : Int) != (y.length : Int)) = false := by simp [hlen]
    have Hlen := hid hlen
    have hle : x.length ≤ y.length := by omega
    have hge : y.length ≤ x.length := by omega
    clear hlen
    go_enter Try.func59, Try.ntmps59
    go_wp2_with fail
    go_loopw [5] (fun i wr => ∃ k : Nat, k ≤ x.length ∧ i = .int .i64 k ∧ Hid (x.take k = y.take k) ∧ Below w.heap.size w wr) (fun i _ => x.length - (intOf i).toNat)
    case atStart => exact ⟨0, Nat.zero_le _, rfl, hid rfl, Below.refl _ _⟩
    case round =>
      obtain ⟨k, hk, rfl, hw, hB⟩ := hrel
      by_cases hlt : k < x.length
      · obtain ⟨bx, ox, rfl, hbx, h1⟩ := RdInts.ne (ha.at hB) hlt
        obtain ⟨b2, oy, rfl, hby, h2⟩ := RdInts.ne (hb.at hB) (show k < y.length by omega)
        have hlt' : k < y.length := by omega
        by_cases hxy : x[k] = y[k]
        · have hn : (x[k] != y[k]) = false := by simp [hxy]
          have Hxy := hid hxy; clear hxy
          go_wp2_with fail
          go_quiet (fail)
          go_wp2
          go_roundw
          case rel => exact ⟨k + 1, by omega, by go_num, hid (take_succ_eq hlt hlt' hw.out Hxy.out), bdrewN hB _⟩
          case measure => simp [intOf]; omega
        · have hn : (x[k] != y[k]) = true := by simp [hxy]
          have Hxy := hid hxy; clear hxy
          go_wp2_with fail
          go_quiet (fail)
          go_wp2
          go_ret
          exact ⟨ret_bool (by simp; exact ne_of_get hlt hlt' Hxy.out), bdrewN hB _⟩
      · go_wp2
        go_ret
        exact ⟨ret_bool (by simp; exact eq_of_take Hlen.out (by omega) hw.out), hB⟩
  · have h0 : ((x.length : Int) != (y.length : Int)) = true := by simp; omega
    go_enter Try.func59, Try.ntmps59
    go_wp2
    go_ret
    exact ⟨ret_bool (by simp; intro e; exact hlen (by rw [e])), Below.refl _ _⟩

end Go.Proofs.Ytbjgebbfachgfaa
/- more comparisons -/
namespace Go.Proofs.Ytbjgebbfachgfaa
open Go.RowKit

def neSpell (a b : Spell) : Bool := decide (a ≠ b)
theorem run_neq_spell (w : World) (a b : Spell) : (binOp .neq 40 (.agg #[.int .i64 a.kind, .int .i64 a.job, .int .i64 a.from0, .int .i64 a.until0]) (.agg #[.int .i64 b.kind, .int .i64 b.job, .int .i64 b.from0, .int .i64 b.until0])).run Try.prog w = .ok (.bool (neSpell a b)) w := by
  have h : neSpell a b = !((a.kind == b.kind) && (a.job == b.job) && (a.from0 == b.from0) && (a.until0 == b.until0)) := by
    obtain ⟨a1, a2, a3, a4⟩ := a; obtain ⟨b1, b2, b3, b4⟩ := b
    simp [neSpell]
    by_cases a1 = b1 <;> by_cases a2 = b2 <;> by_cases a3 = b3 <;> by_cases a4 = b4 <;> simp [*]
  rw [h]
  by_cases h1 : a.kind = b.kind <;> by_cases h2 : a.job = b.job <;> by_cases h3 : a.from0 = b.from0 <;> by_cases h4 : a.until0 = b.until0 <;> simp [go_sem, h1, h2, h3, h4]

set_option maxHeartbeats 400000 in
theorem rspells_any (a b : Option Addr) (ca cb : Nat) (x y : List Spell) (w : World) (hx : x.length ≤ 9223372036854775807) (hy : y.length ≤ 9223372036854775807) (ha : RdSpells w a x) (hb : RdSpells w b y) :
    Calls Try.prog 26 #[.slice a x.length ca, .slice b y.length cb] w fun e w' => e = .returned (.bool (decide (x = y))) ∧ Below w.heap.size w w' := by
  have hneq := run_neq_spell
  by_cases hlen : x.length = y.length
  · have h0 : ((x.length : Int) != (y.length : Int)) = false := by simp [hlen]
    have Hlen := hid hlen
    have hle : x.length ≤ y.length := by omega
    have hge : y.length ≤ x.length := by omega
    clear hlen
    go_enter Try.func26, Try.ntmps26
    go_wp2_with fail
    go_loopw [5] (fun i wr => ∃ k : Nat, k ≤ x.length ∧ i = .int .i64 k ∧ Hid (x.take k = y.take k) ∧ Below w.heap.size w wr) (fun i _ => x.length - (intOf i).toNat)
    case atStart => exact ⟨0, Nat.zero_le _, rfl, hid rfl, Below.refl _ _⟩
    case round =>
      obtain ⟨k, hk, rfl, hw, hB⟩ := hrel
      by_cases hlt : k < x.length
      · obtain ⟨bx, ox, rfl, hbx, h1, h2, h3, h4⟩ := RdSpells.ne (ha.at hB) hlt
        obtain ⟨b2, oy, rfl, hby, g1, g2, g3, g4⟩ := RdSpells.ne (hb.at hB) (show k < y.length by omega)
        have hlt' : k < y.length := by omega
        by_cases hxy : x[k] = y[k]
        · have hn : neSpell x[k] y[k] = false := by simp [neSpell, hxy]
          have Hxy := hid hxy; clear hxy
          go_wp2_with fail
          go_quiet (fail)
          go_wp2
          go_roundw
          case rel => exact ⟨k + 1, by omega, by go_num, hid (take_succ_eq hlt hlt' hw.out Hxy.out), bdrewN hB _⟩
          case measure => simp [intOf]; omega
        · have hn : neSpell x[k] y[k] = true := by simp [neSpell, hxy]
          have Hxy := hid hxy; clear hxy
          go_wp2_with fail
          go_quiet (fail)
          go_wp2
          go_ret
          exact ⟨ret_bool (by simp; exact ne_of_get hlt hlt' Hxy.out), bdrewN hB _⟩
      · go_wp2
        go_ret
        exact ⟨ret_bool (by simp; exact eq_of_take Hlen.out (by omega) hw.out), hB⟩
  · have h0 : ((x.length : Int) != (y.length : Int)) = true := by simp; omega
    go_enter Try.func26, Try.ntmps26
    go_wp2
    go_ret
    exact ⟨ret_bool (by simp; intro e; exact hlen (by rw [e])), Below.refl _ _⟩

def neSt (a b : St) : Bool := decide (a ≠ b)
theorem neSt_eq (a b : St) : neSt a b = !((a.progress == b.progress) && (a.since == b.since) && (a.charge == b.charge) && (a.why == b.why) && (a.ended == b.ended)) := by
  obtain ⟨a1, a2, a3, a4, a5⟩ := a; obtain ⟨b1, b2, b3, b4, b5⟩ := b
  simp [neSt]
  by_cases a1 = b1 <;> by_cases a2 = b2 <;> by_cases a3 = b3 <;> by_cases a4 = b4 <;> by_cases a5 = b5 <;> simp [*]
theorem run_neq_st (w : World) (a b : St) : (binOp .neq 70 (.agg #[.int .i64 a.progress, .int .i64 a.since, .int .i64 a.charge, .int .i64 a.why, .int .i64 a.ended]) (.agg #[.int .i64 b.progress, .int .i64 b.since, .int .i64 b.charge, .int .i64 b.why, .int .i64 b.ended])).run Try.prog w = .ok (.bool (neSt a b)) w := by
  rw [neSt_eq]
  by_cases h1 : a.progress = b.progress <;> by_cases h2 : a.since = b.since <;> by_cases h3 : a.charge = b.charge <;> by_cases h4 : a.why = b.why <;> by_cases h5 : a.ended = b.ended <;> simp [go_sem, h1, h2, h3, h4, h5]

theorem qu_eq (n m : Int) (x y : List St) : decide ((⟨n, x⟩ : Qu) = ⟨m, y⟩) = (decide (n = m) && decide (x = y)) := by simp

set_option maxHeartbeats 800000 in
theorem rqueues_any (n m : Int) (a b : Option Addr) (ca cb : Nat) (x y : List St) (w : World) (hx : x.length ≤ 9223372036854775807) (hy : y.length ≤ 9223372036854775807) (ha : RdSts w a x) (hb : RdSts w b y) :
    Calls Try.prog 20 #[.agg #[.int .i64 n, .slice a x.length ca], .agg #[.int .i64 m, .slice b y.length cb]] w fun e w' => e = .returned (.bool (decide ((⟨n, x⟩ : Qu) = ⟨m, y⟩))) ∧ Below w.heap.size w w' := by
  have hneq := run_neq_st
  rw [qu_eq]
  by_cases hnm : n = m
  · have h1 : (n != m) = false := by simp [hnm]
    have Hnm := hid hnm; clear hnm
    by_cases hlen : x.length = y.length
    · have h0 : ((x.length : Int) != (y.length : Int)) = false := by simp [hlen]
      have Hlen := hid hlen
      have hle : x.length ≤ y.length := by omega
      have hge : y.length ≤ x.length := by omega
      clear hlen
      go_enter Try.func20, Try.ntmps20
      go_wp2_with fail
      go_loopw [5] (fun i wr => ∃ k : Nat, k ≤ x.length ∧ i = .int .i64 k ∧ Hid (x.take k = y.take k) ∧ Below (w.heap.size + 2) ((w.alloc (.cells #[.int .i64 n, .slice a x.length ca] 33)).alloc (.cells #[.int .i64 m, .slice b y.length cb] 33)) wr) (fun i _ => x.length - (intOf i).toNat)
      case atStart => exact ⟨0, Nat.zero_le _, rfl, hid rfl, Below.refl _ _⟩
      case round =>
        obtain ⟨k, hk, rfl, hw, hB⟩ := hrel
        have hB0 : Below w.heap.size w wr := (((Below.refl _ w).alloc (Nat.le_refl _) _).alloc (by simp) _).trans (hB.mono (by omega))
        obtain ⟨hc, hf⟩ := bcell hB
        by_cases hlt : k < x.length
        · obtain ⟨bx, ox, rfl, hbx, h1, h2, h3, h4, h5⟩ := RdSts.ne (ha.at hB0) hlt
          obtain ⟨b2, oy, rfl, hby, g1, g2, g3, g4, g5⟩ := RdSts.ne (hb.at hB0) (show k < y.length by omega)
          have hlt' : k < y.length := by omega
          have hbx' := RdSts.ne ha hlt
          by_cases hxy : x[k] = y[k]
          · have hn : neSt x[k] y[k] = false := by simp [neSt, hxy]
            have Hxy := hid hxy; clear hxy
            go_wp2_with fail
            go_quiet (fail)
            go_wp2
            go_roundw
            case rel => exact ⟨k + 1, by omega, by go_num, hid (take_succ_eq hlt hlt' hw.out Hxy.out), bdrewN hB _⟩
            case measure => simp [intOf]; omega
          · have hn : neSt x[k] y[k] = true := by simp [neSt, hxy]
            have Hxy := hid hxy; clear hxy
            go_wp2_with fail
            go_quiet (fail)
            go_wp2
            go_ret
            exact ⟨ret_bool (by simp; intro _; exact ne_of_get hlt hlt' Hxy.out), bdrewN hB0 _⟩
        · go_wp2
          go_ret
          exact ⟨ret_bool (by simp; exact ⟨Hnm.out, eq_of_take Hlen.out (by omega) hw.out⟩), hB0⟩
    · have h0 : ((x.length : Int) != (y.length : Int)) = true := by simp; omega
      go_enter Try.func20, Try.ntmps20
      go_wp2
      go_ret
      exact ⟨ret_bool (by simp; intro _ e; exact hlen (by rw [e])), ((Below.refl _ w).alloc (Nat.le_refl _) _).alloc (by simp) _⟩
  · have h1 : (n != m) = true := by simp [hnm]
    go_enter Try.func20, Try.ntmps20
    go_wp2
    go_ret
    exact ⟨ret_bool (by simp; intro e; exact absurd e hnm), ((Below.refl _ w).alloc (Nat.le_refl _) _).alloc (by simp) _⟩

end Go.Proofs.Ytbjgebbfachgfaa
/- A name: the reference's function and the program's. -/
namespace Go.Proofs.Ytbjgebbfachgfaa
open Go.RowKit

theorem getb {s : ByteArray} {k : Nat} (h : k < s.size) : s.get! k = s[k] := by
  simp [ByteArray.get!, ByteArray.getElem_eq_getElem_data, h]
theorem nameOk_false_size {s : ByteArray} (h : s.size < 1 ∨ 20 < s.size) : nameOk s = false := by
  unfold nameOk
  rcases h with h | h
  · have : decide (1 ≤ s.size) = false := decide_eq_false (by omega)
    simp [this]
  · have : decide (s.size ≤ 20) = false := decide_eq_false (by omega)
    simp [this]
theorem nameOk_false_last {s : ByteArray} (h : 0 < s.size) (hl : (s[s.size - 1]'(by omega)).toNat = 95) : nameOk s = false := by
  unfold nameOk
  rw [getb (show s.size - 1 < s.size by omega)]
  simp [hl]
theorem nameOk_false_at {s : ByteArray} {k : Nat} (hk : k < s.size) (h : chOk k s[k] = false) : nameOk s = false := by
  unfold nameOk
  have : ((List.range s.size).all fun i => chOk i (s.get! i)) = false := by
    rw [List.all_eq_false]
    exact ⟨k, by simpa using hk, by rw [getb hk, h]; simp⟩
  simp [this]
theorem nameOk_true {s : ByteArray} (h1 : 1 ≤ s.size) (h2 : s.size ≤ 20) (hl : (s[s.size - 1]'(by omega)).toNat ≠ 95) (h : ∀ k, k < s.size → chOk k (s.get! k) = true) : nameOk s = true := by
  unfold nameOk
  have : ((List.range s.size).all fun i => chOk i (s.get! i)) = true := by
    rw [List.all_eq_true]
    intro i hi
    exact h i (by simpa using hi)
  rw [getb (show s.size - 1 < s.size by omega)]
  simp [this, h1, h2, hl]

theorem dec_or (p : Prop) [Decidable p] : decide p = true ∨ decide p = false := by by_cases h : p <;> simp [h]
theorem beq_or (a b : Int) : (a == b) = true ∨ (a == b) = false := by by_cases h : a = b <;> simp [h]

set_option maxHeartbeats 1000000 in
theorem r1name_any (s : ByteArray) (w : World) (hs : s.size ≤ 9223372036854775807) :
    Calls Try.prog 47 #[.string s] w fun e w' => e = .returned (.bool (nameOk s)) ∧ Below w.heap.size w w' := by
  by_cases hin : inb s.size 1 20 = true
  · obtain ⟨h1, h2⟩ := (inb_iff _ _ _).1 hin
    have hlast : s.size - 1 < s.size := by omega
    by_cases hl : (s[s.size - 1]).toNat = 95
    · have hl' : (((s[s.size - 1]).toNat : Int) == 95) = true := by simp [hl]
      have hfin := nameOk_false_last (by omega) hl
      have Hfin := hid hfin
      clear hl hfin
      go_enter Try.func47, Try.ntmps47
      go_wp2_with (go_at_call 62; refine (ref1in_any _ _ _ _).mono ?_; rintro e w' ⟨rfl, rfl⟩)
      go_ret
      exact ⟨ret_bool Hfin.out.symm, Below.refl _ _⟩
    · have hl' : (((s[s.size - 1]).toNat : Int) == 95) = false := by simp; omega
      have Hl := hid hl
      clear hl
      go_enter Try.func47, Try.ntmps47
      go_wp2_with (go_at_call 62; refine (ref1in_any _ _ _ _).mono ?_; rintro e w' ⟨rfl, rfl⟩)
      go_loopw [3, 4, 5] (fun i _ _ wr => ∃ k : Nat, k ≤ s.size ∧ i = .int .i64 k ∧ Hid (∀ j, j < k → chOk j (s.get! j) = true) ∧ Below w.heap.size w wr) (fun i _ _ _ => s.size - (intOf i).toNat)
      case atStart => exact ⟨0, Nat.zero_le _, rfl, hid (by intro j hj; omega), Below.refl _ _⟩
      case round =>
        obtain ⟨k, hk, rfl, hw, hB⟩ := hrel
        by_cases hlt : k < s.size
        · have hge := getb hlt
          have Hge := hid hge; clear hge
          have hch : ∀ b : Bool, chOk k s[k] = b → ((((97 ≤ (s[k].toNat : Int) ∧ (s[k].toNat : Int) ≤ 122) ∨ ((k : Int) ≠ 0 ∧ ((s[k].toNat : Int) = 95 ∨ (48 ≤ (s[k].toNat : Int) ∧ (s[k].toNat : Int) ≤ 57)))) ↔ b = true)) := by
            intro b hb; subst hb; unfold chOk; simp; omega
          rcases dec_or (97 ≤ (s[k].toNat : Int)) with t1 | t1 <;> rcases dec_or ((s[k].toNat : Int) ≤ 122) with t2 | t2 <;> rcases dec_or (48 ≤ (s[k].toNat : Int)) with t3 | t3 <;> rcases dec_or ((s[k].toNat : Int) ≤ 57) with t4 | t4 <;>
            rcases beq_or (s[k].toNat : Int) 95 with t5 | t5 <;> rcases beq_or (k : Int) 0 with t6 | t6 <;> rcases Bool.eq_false_or_eq_true (chOk k s[k]) with t7 | t7 <;>
            first
            | (exfalso; have := hch _ t7; simp at t1 t2 t3 t4 t5 t6; simp at this; omega)
            | (have H7 := hid t7
               clear hch t7
               go_wp2_with fail
               go_quiet (fail)
               go_wp2
               first
               | (go_roundw
                  case rel => exact ⟨k + 1, by omega, by go_num, hid (by intro j hj; by_cases hjk : j < k; exact hw.out j hjk; obtain rfl : j = k := by omega; rw [Hge.out]; exact H7.out), bdrewN hB _⟩
                  case measure => simp [intOf]; omega)
               | (go_ret
                  exact ⟨ret_bool (nameOk_false_at hlt H7.out).symm, bdrewN hB _⟩)
               | (go_roundw
                  case rel => refine ⟨k + 1, by omega, by go_num, hid ?_, bdrewN hB _⟩; intro j hj; by_cases hjk : j < k; exact hw.out j hjk; have hjk' : j = k := by omega
                              rw [hjk', Hge.out]; exact H7.out
                  case measure => simp [intOf]; omega))
        · go_wp2
          go_ret
          exact ⟨ret_bool (nameOk_true (by omega) (by omega) Hl.out (fun j hj => hw.out j (by omega))).symm, hB⟩
  · have hin' : inb s.size 1 20 = false := by simpa using hin
    have hfin : nameOk s = false := nameOk_false_size (by rcases Nat.lt_or_ge s.size 1 with h | h; exact .inl h; right; have := (inb_iff s.size 1 20); rw [hin'] at this; simp at this; omega)
    have Hfin := hid hfin
    clear hin hfin
    go_enter Try.func47, Try.ntmps47
    go_wp2_with (go_at_call 62; refine (ref1in_any _ _ _ _).mono ?_; rintro e w' ⟨rfl, rfl⟩)
    go_ret
    exact ⟨ret_bool Hfin.out.symm, Below.refl _ _⟩

end Go.Proofs.Ytbjgebbfachgfaa
/- A name: the program's function. -/
namespace Go.Proofs.Ytbjgebbfachgfaa
open Go.RowKit

theorem conv_bytes (w : World) (s : ByteArray) : ∃ cap W', (convert 9 75 (.string s)).run Try.prog w = .ok (.slice (some ⟨w.heap.size, 0, none⟩) s.size cap) W' ∧ Below w.heap.size w W' ∧ w.heap.size < W'.heap.size ∧
    ∀ j (h : j < s.size), W'.cell? ⟨w.heap.size, j, none⟩ = some (.int .u8 s[j].toNat) := by
  refine ⟨_, _, run_bytes_of_string w 9 75 5 s Try.underlying9 Try.underlying75 Try.underlying5, ?_, ?_, ?_⟩
  · exact ((Below.refl _ w).drew).alloc (Nat.le_refl _) _
  · simp
  · intro j h
    simp only [World.cell?, World.alloc, World.drew]
    simp [bytesRow]
    rw [Array.getElem?_append_left (by simpa using h)]
    have h' : j < s.data.size := by simpa using h
    rw [ByteArray.getElem_eq_getElem_data]
    simp
    exact ⟨_, Array.getElem?_eq_getElem h', rfl⟩

set_option maxRecDepth 100000 in
set_option maxHeartbeats 1000000 in
theorem lname_any (s : ByteArray) (w : World) (hs : s.size ≤ 9223372036854775807) :
    Calls Try.prog 44 #[.string s] w fun e w' => e = .returned (.bool (nameOk s)) ∧ Below w.heap.size w w' := by
  by_cases hin : inb s.size 1 20 = true
  · obtain ⟨h1, h2⟩ := (inb_iff _ _ _).1 hin
    have hlast : s.size - 1 < s.size := by omega
    by_cases hl : (s[s.size - 1]).toNat = 95
    · have hl' : (((s[s.size - 1]).toNat : Int) == 95) = true := by simp [hl]
      have hfin := nameOk_false_last (by omega) hl
      have Hfin := hid hfin
      clear hl hfin
      go_enter Try.func44, Try.ntmps44
      go_wp2_with (go_at_call 61; refine (lout_any _ _ _ _).mono ?_; rintro e w' ⟨rfl, rfl⟩)
      go_ret
      exact ⟨ret_bool Hfin.out.symm, Below.refl _ _⟩
    · have hl' : (((s[s.size - 1]).toNat : Int) == 95) = false := by simp; omega
      have Hl := hid hl
      clear hl
      obtain ⟨cap, W, hconv, hBW, hsz, hcells⟩ := conv_bytes w s
      go_enter Try.func44, Try.ntmps44
      go_wp2_with (go_at_call 61; refine (lout_any _ _ _ _).mono ?_; rintro e w' ⟨rfl, rfl⟩)
      clear hconv
      go_loopw [3, 4, 19] (fun _ _ i wr => ∃ k : Nat, k ≤ s.size ∧ i = .int .i64 k ∧ Hid (∀ j, j < k → chOk j (s.get! j) = true) ∧ wr = W) (fun _ _ i _ => s.size - (intOf i).toNat)
      case atStart => exact ⟨0, Nat.zero_le _, rfl, hid (by intro j hj; omega), rfl⟩
      case round =>
        obtain ⟨k, hk, rfl, hw, rfl⟩ := hrel
        by_cases hlt : k < s.size
        · have hge := getb hlt
          have Hge := hid hge; clear hge
          have hcell := hcells k hlt
          have Hcells := hid hcells; clear hcells
          have hch : ∀ b : Bool, chOk k s[k] = b → ((((97 ≤ (s[k].toNat : Int) ∧ (s[k].toNat : Int) ≤ 122) ∨ ((k : Int) ≠ 0 ∧ ((s[k].toNat : Int) = 95 ∨ (48 ≤ (s[k].toNat : Int) ∧ (s[k].toNat : Int) ≤ 57)))) ↔ b = true)) := by
            intro b hb; subst hb; unfold chOk; simp; omega
          rcases dec_or (97 ≤ (s[k].toNat : Int)) with t1 | t1 <;> rcases dec_or ((s[k].toNat : Int) ≤ 122) with t2 | t2 <;> rcases dec_or (48 ≤ (s[k].toNat : Int)) with t3 | t3 <;> rcases dec_or ((s[k].toNat : Int) ≤ 57) with t4 | t4 <;>
            rcases beq_or (s[k].toNat : Int) 95 with t5 | t5 <;> rcases dec_or (0 < k) with t6 | t6 <;> rcases Bool.eq_false_or_eq_true (chOk k s[k]) with t7 | t7 <;>
            first
            | (exfalso; have := hch _ t7; simp at t1 t2 t3 t4 t5 t6; simp at this; omega)
            | (have H7 := hid t7
               clear hch t7
               go_wp2
               first
               | (go_ret
                  exact ⟨ret_bool (nameOk_false_at hlt H7.out).symm, hBW⟩)
               | (go_roundw
                  case rel => refine ⟨k + 1, by omega, by go_num, hid ?_, trivial⟩; intro j hj; by_cases hjk : j < k; exact hw.out j hjk; have hjk' : j = k := by omega
                              rw [hjk', Hge.out]; exact H7.out
                  case measure => simp [intOf]; omega))
        · go_wp2
          go_ret
          exact ⟨ret_bool (nameOk_true (by omega) (by omega) Hl.out (fun j hj => hw.out j (by omega))).symm, hBW⟩
  · have hin' : inb s.size 1 20 = false := by simpa using hin
    have hfin : nameOk s = false := nameOk_false_size (by rcases Nat.lt_or_ge s.size 1 with h | h; exact .inl h; right; have := (inb_iff s.size 1 20); rw [hin'] at this; simp at this; omega)
    have Hfin := hid hfin
    clear hin hfin
    go_enter Try.func44, Try.ntmps44
    go_wp2_with (go_at_call 61; refine (lout_any _ _ _ _).mono ?_; rintro e w' ⟨rfl, rfl⟩)
    go_ret
    exact ⟨ret_bool Hfin.out.symm, Below.refl _ _⟩

end Go.Proofs.Ytbjgebbfachgfaa
/- Plain laws on Check. -/
namespace Go.Proofs.Ytbjgebbfachgfaa

theorem check_rules {W : Work} (h : W.rules.ok = false) : check W = (1, 0, 7) := by simp [check, h]
theorem check_long {W : Work} (h : W.rules.ok = true) (hl : 12 < W.jobs.length ∨ 20 < W.faults.length) : check W = (1, 0, 3) := by
  unfold check; rw [if_neg (by simp [h]), if_pos hl]
theorem check_job {W : Work} (h : W.rules.ok = true) (h1 : W.jobs.length ≤ 12) (h2 : W.faults.length ≤ 20) {k : Nat} (hk : k < W.jobs.length) (hb : ∀ i, i < k → jobErr W.jobs i = 0) {e : Int} (he : jobErr W.jobs k = e) (h0 : e ≠ 0) :
    check W = (2, (k : Int), e) := by
  unfold check; rw [if_neg (by simp [h]), if_neg (by omega), firstErr_some hk hb (by rw [he]; exact h0)]; simp [he]
theorem check_flt {W : Work} (h : W.rules.ok = true) (h1 : W.jobs.length ≤ 12) (h2 : W.faults.length ≤ 20) (hj : ∀ i, i < W.jobs.length → jobErr W.jobs i = 0) {k : Nat} (hk : k < W.faults.length) (hb : ∀ i, i < k → fltErr W.faults i = 0)
    {e : Int} (he : fltErr W.faults k = e) (h0 : e ≠ 0) : check W = (3, (k : Int), e) := by
  unfold check; rw [if_neg (by simp [h]), if_neg (by omega), firstErr_none hj, firstErr_some hk hb (by rw [he]; exact h0)]; simp [he]
theorem check_ok {W : Work} (h : W.rules.ok = true) (h1 : W.jobs.length ≤ 12) (h2 : W.faults.length ≤ 20) (hj : ∀ i, i < W.jobs.length → jobErr W.jobs i = 0) (hf : ∀ i, i < W.faults.length → fltErr W.faults i = 0) :
    check W = (0, 0, 0) := by
  unfold check; rw [if_neg (by simp [h]), if_neg (by omega), firstErr_none hj, firstErr_none hf]

theorem jobErr_form {js : List Job} {i : Nat} (hi : i < js.length) (h : nameOk js[i].name = false) : jobErr js i = 6 := by simp [jobErr, hi, h]
theorem jobErr_twice {js : List Job} {i : Nat} (hi : i < js.length) (h : nameOk js[i].name = true) {k : Nat} (hk : k < i) (he : (js[k].name.toList == js[i].name.toList) = true) : jobErr js i = 5 := by
  unfold jobErr
  rw [if_neg (by simp [hi, h]), if_pos]
  rw [List.any_eq_true]
  exact ⟨js[k], by rw [List.mem_iff_getElem]; exact ⟨k, by simp; omega, by simp⟩, by simpa [hi] using he⟩
theorem jobErr_range {js : List Job} {i : Nat} (hi : i < js.length) (h : nameOk js[i].name = true) (hn : ∀ k (_ : k < i), (js[k].name.toList == js[i].name.toList) = false) (hr : js[i].numOk = false) : jobErr js i = 7 := by
  unfold jobErr
  rw [if_neg (by simp [hi, h]), if_neg, if_pos (by simp [hi, hr])]
  rw [List.any_eq_true]
  rintro ⟨x, hx, he⟩
  obtain ⟨k, hk, rfl⟩ := List.mem_iff_getElem.1 hx
  simp at hk
  have := hn k (by omega)
  simp [hi] at he this
  exact this he
theorem jobErr_ok {js : List Job} {i : Nat} (hi : i < js.length) (h : nameOk js[i].name = true) (hn : ∀ k (_ : k < i), (js[k].name.toList == js[i].name.toList) = false) (hr : js[i].numOk = true) : jobErr js i = 0 := by
  unfold jobErr
  rw [if_neg (by simp [hi, h]), if_neg, if_neg (by simp [hi, hr])]
  rw [List.any_eq_true]
  rintro ⟨x, hx, he⟩
  obtain ⟨k, hk, rfl⟩ := List.mem_iff_getElem.1 hx
  simp at hk
  have := hn k (by omega)
  simp [hi] at he this
  exact this he
theorem jobErr_twice' {js : List Job} {i : Nat} (hi : i < js.length) (h : nameOk js[i].name = true) (ha : (js.take i).any (fun j => j.name.toList == js[i].name.toList) = true) : jobErr js i = 5 := by
  have e : js.getD i Job.zero = js[i] := by simp [hi]
  unfold jobErr; rw [e, if_neg (by simp [h]), if_pos ha]
theorem jobErr_range' {js : List Job} {i : Nat} (hi : i < js.length) (h : nameOk js[i].name = true) (ha : (js.take i).any (fun j => j.name.toList == js[i].name.toList) = false) (hr : js[i].numOk = false) : jobErr js i = 7 := by
  have e : js.getD i Job.zero = js[i] := by simp [hi]
  unfold jobErr; rw [e, if_neg (by simp [h]), if_neg (by rw [ha]; simp), if_pos hr]
theorem jobErr_ok' {js : List Job} {i : Nat} (hi : i < js.length) (h : nameOk js[i].name = true) (ha : (js.take i).any (fun j => j.name.toList == js[i].name.toList) = false) (hr : js[i].numOk = true) : jobErr js i = 0 := by
  have e : js.getD i Job.zero = js[i] := by simp [hi]
  unfold jobErr; rw [e, if_neg (by simp [h]), if_neg (by rw [ha]; simp), if_neg (by simp [hr])]
theorem fltErr_range {fs : List Fault} {i : Nat} (hi : i < fs.length) (h : inb fs[i].at0 0 5000 = false ∨ inb fs[i].rep 1 5000 = false) : fltErr fs i = 7 := by
  unfold fltErr; rw [if_pos (by simpa [hi] using h)]
theorem fltErr_arg {fs : List Fault} {i : Nat} (hi : i < fs.length) (h1 : inb fs[i].at0 0 5000 = true) (h2 : inb fs[i].rep 1 5000 = true) (h0 : 0 < i) (h : fs[i].at0 < fs[i - 1].at0 + fs[i - 1].rep) : fltErr fs i = 2 := by
  unfold fltErr; rw [if_neg (by simp [hi, h1, h2]), if_pos]
  have : i - 1 < fs.length := by omega
  simpa [hi, h0, this] using h
theorem fltErr_ok {fs : List Fault} {i : Nat} (hi : i < fs.length) (h1 : inb fs[i].at0 0 5000 = true) (h2 : inb fs[i].rep 1 5000 = true) (h : 0 < i → ¬ fs[i].at0 < fs[i - 1].at0 + fs[i - 1].rep) : fltErr fs i = 0 := by
  unfold fltErr; rw [if_neg (by simp [hi, h1, h2]), if_neg]
  rintro ⟨h0, hc⟩
  have : i - 1 < fs.length := by omega
  exact h h0 (by simpa [hi, this] using hc)
theorem fltErr_zero {fs : List Fault} {i : Nat} (hi : i < fs.length) (h : fltErr fs i = 0) : (0 ≤ fs[i].at0 ∧ fs[i].at0 ≤ 5000) ∧ (1 ≤ fs[i].rep ∧ fs[i].rep ≤ 5000) ∧ (0 < i → fs[i - 1].at0 + fs[i - 1].rep ≤ fs[i].at0) := by
  unfold fltErr at h
  by_cases h1 : inb (fs.getD i Fault.zero).at0 0 5000 = false ∨ inb (fs.getD i Fault.zero).rep 1 5000 = false
  · rw [if_pos h1] at h; simp at h
  · rw [if_neg h1] at h
    by_cases h2 : 0 < i ∧ (fs.getD i Fault.zero).at0 < (fs.getD (i - 1) Fault.zero).at0 + (fs.getD (i - 1) Fault.zero).rep
    · rw [if_pos h2] at h; simp at h
    · have e1 : fs.getD i Fault.zero = fs[i] := by simp [hi]
      rw [e1] at h1 h2
      simp [inb] at h1
      refine ⟨by omega, by omega, fun h0 => ?_⟩
      have : i - 1 < fs.length := by omega
      have e2 : fs.getD (i - 1) Fault.zero = fs[i - 1] := by simp [this]
      rw [e2] at h2
      omega

def endBefore (fs : List Fault) (k : Nat) : Int := if k = 0 then 0 else (fs.getD (k - 1) Fault.zero).at0 + (fs.getD (k - 1) Fault.zero).rep
theorem endBefore_succ {fs : List Fault} {k : Nat} (hk : k < fs.length) : endBefore fs (k + 1) = fs[k].at0 + fs[k].rep := by simp [endBefore, hk]
theorem fltErr_arg' {fs : List Fault} {i : Nat} (hi : i < fs.length) (h1 : inb fs[i].at0 0 5000 = true) (h2 : inb fs[i].rep 1 5000 = true) (h : fs[i].at0 < endBefore fs i) : fltErr fs i = 2 := by
  have := (inb_iff _ _ _).1 h1
  by_cases h0 : 0 < i
  · have hl : i - 1 < fs.length := by omega
    refine fltErr_arg hi h1 h2 h0 ?_
    unfold endBefore at h
    rw [if_neg (by omega)] at h
    simpa [hl] using h
  · obtain rfl : i = 0 := by omega
    simp [endBefore] at h; omega
theorem fltErr_ok' {fs : List Fault} {i : Nat} (hi : i < fs.length) (h1 : inb fs[i].at0 0 5000 = true) (h2 : inb fs[i].rep 1 5000 = true) (h : ¬ fs[i].at0 < endBefore fs i) : fltErr fs i = 0 := by
  refine fltErr_ok hi h1 h2 fun h0 => ?_
  have hl : i - 1 < fs.length := by omega
  unfold endBefore at h
  rw [if_neg (by omega)] at h
  simpa [hl] using h

end Go.Proofs.Ytbjgebbfachgfaa
