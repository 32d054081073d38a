/- Entries and units, in order. -/
import Derived.Test.YtleknidlgmmgbaaGreattsT6
set_option linter.all false
namespace Go.Proofs.YtleknidlgmmgbaaGreat

def cmpE (a b : Ent) : Int := if a.day - b.day ≠ 0 then a.day - b.day else if a.mach - b.mach ≠ 0 then a.mach - b.mach else a.num - b.num
def soonE (a b : Ent) : Bool := if a.day ≠ b.day then decide (a.day < b.day) else if a.mach ≠ b.mach then decide (a.mach < b.mach) else decide (a.num < b.num)
theorem soon_iff {a b : Ent} : soonE a b = true ↔ a.day < b.day ∨ a.day = b.day ∧ (a.mach < b.mach ∨ a.mach = b.mach ∧ a.num < b.num) := by
  unfold soonE
  by_cases h1 : a.day = b.day
  · rw [if_neg (by simpa using h1)]
    by_cases h2 : a.mach = b.mach
    · rw [if_neg (by simpa using h2), decide_eq_true_eq]; omega
    · rw [if_pos h2, decide_eq_true_eq]; omega
  · rw [if_pos h1, decide_eq_true_eq]; omega
theorem soon_cmp (a b : Ent) : soonE a b = decide (cmpE a b < 0) := by
  rw [Bool.eq_iff_iff, soon_iff, decide_eq_true_eq]
  unfold cmpE
  split
  · omega
  · split <;> omega
/-- no two entries with one number of one machine -/
def NoConf (all : List Ent) : Prop := ∀ a ∈ all, ∀ b ∈ all, a.num = b.num → a.mach = b.mach → a = b
theorem totE {all : List Ent} (h : NoConf all) : Tot soonE (· ∈ all) where
  irr x _ := by cases e : soonE x x with | false => rfl | true => rw [soon_iff] at e; omega
  tr x y z _ _ _ h1 h2 := by rw [soon_iff] at *; omega
  tri x y hx hy := by
    by_cases h1 : soonE x y = true
    · exact .inl h1
    · by_cases h2 : soonE y x = true
      · exact .inr (.inr h2)
      · rw [soon_iff] at h1 h2
        exact .inr (.inl (h x hx y hy (by omega) (by omega)))
def uLess (u v : Unt) : Bool := decide (u.mach < v.mach) || (decide (u.mach = v.mach) && Op.bytesLess u.unit.toList v.unit.toList)
theorem uLess_iff {u v : Unt} : uLess u v = true ↔ u.mach < v.mach ∨ u.mach = v.mach ∧ Op.bytesLess u.unit.toList v.unit.toList = true := by
  unfold uLess
  rw [Bool.or_eq_true, Bool.and_eq_true, decide_eq_true_eq, decide_eq_true_eq]
theorem totU : Tot uLess (fun _ => True) where
  irr x _ := by cases e : uLess x x with | false => rfl | true => rw [uLess_iff, bl_irrefl] at e; simp at e
  tr x y z _ _ _ h1 h2 := by
    rw [uLess_iff] at *
    rcases h1 with h1 | ⟨h1, h3⟩
    · rcases h2 with h2 | ⟨h2, h4⟩ <;> left <;> omega
    · rcases h2 with h2 | ⟨h2, h4⟩
      · left; omega
      · exact .inr ⟨by omega, bl_trans h3 h4⟩
  tri x y _ _ := by
    rw [uLess_iff, uLess_iff]
    rcases Int.lt_trichotomy x.mach y.mach with h | h | h
    · exact .inl (.inl h)
    · rcases bl_tri x.unit.toList y.unit.toList with g | g | g
      · exact .inl (.inr ⟨h, g⟩)
      · refine .inr (.inl ?_)
        have := ba_inj g
        cases x; cases y
        simp only at h this
        rw [h, this]
      · exact .inr (.inr (.inr ⟨h.symm, g⟩))
    · exact .inr (.inr (.inl h))
def mergeS (all : List Ent) : List Ent := setL soonE all
def winC (l : List Ent) (u : Unt) (days d : Int) : Nat := l.countP fun y => decide (y.u = u) && decide (y.day - d < days)
/-- from the i-th entry on, within days of it -/
def oftU (l : List Ent) (u : Unt) (days : Int) : List Ent → Nat
  | [] => 0
  | x :: t => max (winC (x :: t) u days x.day) (oftU l u days t)
def oftenI (l : List Ent) (u : Unt) (days : Int) : Nat := oftU l u days l
def susL (all : List Ent) (days : Int) (many : Nat) : List Unt := (all.map Ent.u).filter fun u => decide (many ≤ oftenI all u days)
def susS (all : List Ent) (days : Int) (many : Nat) : List Unt := setL uLess (susL (mergeS all) days many)
theorem susS_mem {all : List Ent} {days : Int} {many : Nat} {u : Unt} : u ∈ susS all days many ↔ (∃ x ∈ mergeS all, x.u = u) ∧ many ≤ oftenI (mergeS all) u days := by
  unfold susS
  rw [(setL_ok totU (fun _ _ => trivial)).2]
  unfold susL
  rw [List.mem_filter, List.mem_map, decide_eq_true_eq]
theorem merge_mem {l : List Ent} (hc : NoConf l) (x : Ent) : x ∈ mergeS l ↔ x ∈ l := (setL_ok (totE hc) (fun _ hy => hy)).2 x
theorem merge_len (l : List Ent) : (mergeS l).length ≤ l.length := by
  have := setL_len (lt := soonE) (l := l) (out := [])
  simpa [mergeS, setL] using this
theorem merge_asc {l : List Ent} (hc : NoConf l) : (mergeS l).Pairwise (fun a b => a.day ≤ b.day) := by
  refine (setL_ok (totE hc) (fun _ hy => hy)).1.imp fun {a b} h => ?_
  rw [soon_iff] at h
  omega

/- in a list with ascending days: the window of many entries about a unit -/
def daysOf (l : List Ent) (u : Unt) : List Int := (l.filter fun y => decide (y.u = u)).map Ent.day
theorem win_days {u : Unt} {days d : Int} : ∀ (l : List Ent), winC l u days d = (daysOf l u).countP fun x => decide (x - d < days)
  | [] => rfl
  | y :: l => by
    have ih := win_days (u := u) (days := days) (d := d) l
    unfold winC daysOf at ih ⊢
    by_cases h : y.u = u
    · rw [List.filter_cons_of_pos (by simpa using h), List.map_cons, List.countP_cons, List.countP_cons, ih]; simp [h]
    · rw [List.filter_cons_of_neg (by simpa using h), List.countP_cons, ih]; simp [h]

end Go.Proofs.YtleknidlgmmgbaaGreat
