/- The stable sort's parts: rotating. -/
import Derived.Test.YtndcmmghgljinaardW2
import Derived.Sort.LotA
import Derived.Test.YtndcmmghgljinaardW4
set_option linter.all false
namespace Go.Proofs.Ytndcmmghgljinaa

section
open Go.Sort

instance : Inhabited MCk := ⟨⟨0, 0, false⟩⟩
def ltH (x y : MCk) : Bool := decide (x.hour < y.hour)
theorem ltH_swo : SWO ltH where
  irrefl x := by simp [ltH]
  trans x y z h1 h2 := by simp [ltH] at *; omega
  ntrans x y z h1 h2 := by simp [ltH] at *; omega
def fl (d : Array MCk) : List Value := d.toList.flatMap MCk.cs
def hourOk (c : MCk) : Prop := 0 ≤ c.hour ∧ c.hour ≤ 100000
def AllH (d : Array MCk) : Prop := ∀ k, k < d.size → hourOk d[k]!
theorem allH_perm {a b : Nat} {d d' : Array MCk} (hb : b ≤ d.size) (h : PermIn a b d d') (ha : AllH d) : AllH d' := by
  intro k hk
  rw [h.1] at hk
  by_cases hin : a ≤ k ∧ k < b
  · exact permIn_all d d' a b hourOk hb h (fun i h1 h2 => ha i (by omega)) k hin.1 hin.2
  · rw [h.2.1 k (by omega)]; exact ha k hk
theorem getB {d : Array MCk} {i : Nat} (hi : i < d.size) : d.toList[i]? = some d[i]! := by
  rw [getElem!_pos d i hi]; simp [hi]
theorem fl_get {w : World} {g : Nat} {d : Array MCk} (h : Cells w g (fl d)) {i : Nat} (hi : i < d.size) :
    w.cell? ⟨g, i * 3, none⟩ = some (.int .i64 d[i]!.hour) ∧ w.cell? ⟨g, i * 3 + 1, none⟩ = some (.int .i64 d[i]!.volt) ∧ w.cell? ⟨g, i * 3 + 2, none⟩ = some (.bool d[i]!.passed) := by
  have hg : ∀ j v, (MCk.cs d[i]!)[j]? = some v → w.cell? ⟨g, i * 3 + j, none⟩ = some v := fun j v hv => h.2.1 _ _ (flat_get MCk.cs 3 (fun _ => rfl) d.toList i d[i]! (getB hi) j v hv)
  exact ⟨hg 0 _ rfl, hg 1 _ rfl, hg 2 _ rfl⟩
theorem set3 {α : Type} (a b c : α) (t : List α) (i : Nat) (v : α) : (a :: b :: c :: t).set (i + 3) v = a :: b :: c :: t.set i v := rfl
theorem flat_set3 (x : MCk) : ∀ (l : List MCk) (m : Nat), m < l.length → (l.set m x).flatMap MCk.cs = (((l.flatMap MCk.cs).set (m * 3) (.int .i64 x.hour)).set (m * 3 + 1) (.int .i64 x.volt)).set (m * 3 + 2) (.bool x.passed)
  | [], m, h => by simp at h
  | y :: l, 0, _ => by simp
  | y :: l, m + 1, h => by
    have ih := flat_set3 x l m (by simpa using h)
    simp only [List.set_cons_succ, List.flatMap_cons]
    rw [ih]
    have e1 : (m + 1) * 3 = m * 3 + 3 := by omega
    have e2 : m * 3 + 3 + 1 = m * 3 + 1 + 3 := by omega
    have e3 : m * 3 + 3 + 2 = m * 3 + 2 + 3 := by omega
    rw [e1, e2, e3]
    simp only [List.cons_append, List.nil_append, set3]
theorem fl_set {d : Array MCk} {i : Nat} (x : MCk) (hi : i < d.size) : (((fl d).set (i * 3) (.int .i64 x.hour)).set (i * 3 + 1) (.int .i64 x.volt)).set (i * 3 + 2) (.bool x.passed) = fl (d.setIfInBounds i x) := by
  unfold fl
  rw [← flat_set3 x d.toList i (by simpa using hi)]
  simp
/- the hours, as a function of the place -/
def hr (d : Array MCk) (k : Nat) : Int := d[k]!.hour
theorem sortedIn_iff {a b : Nat} {d : Array MCk} : SortedIn ltH a b d ↔ ∀ i j, a ≤ i → i < j → j < b → hr d i ≤ hr d j := by
  unfold SortedIn hr ltH
  constructor
  · intro h i j h1 h2 h3; have := h i j h1 h2 h3; simpa using this
  · intro h i j h1 h2 h3; have := h i j h1 h2 h3; simpa using this
def Same (d d' : Array MCk) (f : Nat → Nat) : Prop := d'.size = d.size ∧ ∀ k, d'[k]! = d[f k]!
theorem swp_at {d : Array MCk} {i j : Nat} (hi : i < d.size) (hj : j < d.size) : Same d (swp d i j) (fun k => if k = j then i else if k = i then j else k) := by
  refine ⟨swp_size d i j, fun k => ?_⟩
  rw [swp_get d hi hj]
  dsimp only
  split
  · rfl
  · split <;> rfl
/-- blocks [a, a + n) and [b, b + n) exchanged -/
def swF (a b n k : Nat) : Nat := if a ≤ k ∧ k < a + n then b + (k - a) else if b ≤ k ∧ k < b + n then a + (k - b) else k
/-- [a, m) and [m, b) exchanged -/
def rotF (a m b k : Nat) : Nat := if k < a then k else if k < a + (b - m) then m + (k - a) else if k < b then a + (k - (a + (b - m))) else k
theorem Same.refl (d : Array MCk) : Same d d (fun k => k) := ⟨rfl, fun _ => rfl⟩
theorem Same.trans {d d' d'' : Array MCk} {f g : Nat → Nat} (h : Same d d' f) (h' : Same d' d'' g) : Same d d'' (fun k => f (g k)) := ⟨h'.1.trans h.1, fun k => (h'.2 k).trans (h.2 _)⟩
theorem Same.to {d d' : Array MCk} {f g : Nat → Nat} (h : Same d d' f) (hfg : ∀ k, f k = g k) : Same d d' g := ⟨h.1, fun k => by rw [h.2, hfg]⟩
theorem Same.hr {d d' : Array MCk} {f : Nat → Nat} (h : Same d d' f) (k : Nat) : hr d' k = hr d (f k) := by unfold Ytndcmmghgljinaa.hr; rw [h.2]
/-- one more pair of swapRange -/
theorem sw_step {d d1 : Array MCk} {a b n i : Nat} (h : Same d d1 (swF a b i)) (hi : i < n) (hab : a + n ≤ b ∨ b + n ≤ a) (ha : a + n ≤ d.size) (hb : b + n ≤ d.size) : Same d (swp d1 (a + i) (b + i)) (swF a b (i + 1)) := by
  have h2 := swp_at (d := d1) (i := a + i) (j := b + i) (by rw [h.1]; omega) (by rw [h.1]; omega)
  refine (h.trans h2).to fun k => ?_
  unfold swF
  repeat' split
  all_goals omega
theorem rot_left {a m b i j : Nat} (hij : j < i) (h1 : i ≤ m) (k : Nat) : swF (m - i) m j (rotF (m - (i - j)) m (m + j) k) = rotF (m - i) m (m + j) k := by
  unfold swF rotF
  repeat' split
  all_goals omega
theorem rot_right {m i j : Nat} (hij : i < j) (h1 : i ≤ m) (k : Nat) : swF (m - i) (m + j - i) i (rotF (m - i) m (m + (j - i)) k) = rotF (m - i) m (m + j) k := by
  unfold swF rotF
  repeat' split
  all_goals omega
theorem rot_end {m i : Nat} (h1 : i ≤ m) (k : Nat) : swF (m - i) m i k = rotF (m - i) m (m + i) k := by
  unfold swF rotF
  repeat' split
  all_goals omega
theorem rot_none {a m b : Nat} (h : a = m ∨ m = b) (h1 : a ≤ m) (h2 : m ≤ b) (k : Nat) : rotF a m b k = k := by
  unfold rotF
  repeat' split
  all_goals omega

/- the merge -/
/-- what the search finds: start, between lo and hi -/
structure Split (d : Array MCk) (a m b mid start : Nat) : Prop where
  am : a < m
  mb : m < b
  md : mid = (a + b) / 2
  lo : a ≤ start
  le : start ≤ m
  sm : start ≤ mid
  ee : mid + m - start ≤ b
  left : a < start → mid + m - start < b → hr d (start - 1) ≤ hr d (mid + m - start)
  right : start < m → m < mid + m - start → hr d (mid + m - start - 1) ≤ hr d start
theorem Split.halves {d d1 : Array MCk} {a m b mid start : Nat} (h : Split d a m b mid start) (hs1 : SortedIn ltH a m d) (hs2 : SortedIn ltH m b d) (hr1 : Same d d1 (rotF start m (mid + m - start))) :
    SortedIn ltH a start d1 ∧ SortedIn ltH start mid d1 ∧ SortedIn ltH mid (mid + m - start) d1 ∧ SortedIn ltH (mid + m - start) b d1 ∧ (∀ i j, a ≤ i → i < mid → mid ≤ j → j < b → hr d1 i ≤ hr d1 j) := by
  rw [sortedIn_iff] at hs1 hs2
  obtain ⟨h1, h2, h3, h4, h5, h6, h7, h8, h9⟩ := h
  have e : ∀ k, hr d1 k = hr d (rotF start m (mid + m - start) k) := hr1.hr
  have f1 : ∀ k, k < start → rotF start m (mid + m - start) k = k := by intro k hk; unfold rotF; (repeat' split) <;> omega
  have f2 : ∀ k, start ≤ k → k < mid → rotF start m (mid + m - start) k = m + (k - start) := by intro k hk hk2; unfold rotF; (repeat' split) <;> omega
  have f3 : ∀ k, mid ≤ k → k < mid + m - start → rotF start m (mid + m - start) k = start + (k - mid) := by intro k hk hk2; unfold rotF; (repeat' split) <;> omega
  have f4 : ∀ k, mid + m - start ≤ k → rotF start m (mid + m - start) k = k := by intro k hk; unfold rotF; (repeat' split) <;> omega
  refine ⟨?_, ?_, ?_, ?_, ?_⟩
  · rw [sortedIn_iff]; intro i j hi hij hj; rw [e, e, f1 i (by omega), f1 j (by omega)]; exact hs1 i j hi hij (by omega)
  · rw [sortedIn_iff]; intro i j hi hij hj; rw [e, e, f2 i (by omega) (by omega), f2 j (by omega) (by omega)]; exact hs2 _ _ (by omega) (by omega) (by omega)
  · rw [sortedIn_iff]; intro i j hi hij hj; rw [e, e, f3 i (by omega) (by omega), f3 j (by omega) (by omega)]; exact hs1 _ _ (by omega) (by omega) (by omega)
  · rw [sortedIn_iff]; intro i j hi hij hj; rw [e, e, f4 i (by omega), f4 j (by omega)]; exact hs2 _ _ (by omega) (by omega) (by omega)
  · intro i j hi him hj hjb
    have le1 : ∀ x y, a ≤ x → x ≤ y → y < m → hr d x ≤ hr d y := by
      intro x y hx hxy hy
      by_cases hxy' : x = y
      · rw [hxy']; exact Int.le_refl _
      · exact hs1 x y hx (by omega) hy
    have le2 : ∀ x y, m ≤ x → x ≤ y → y < b → hr d x ≤ hr d y := by
      intro x y hx hxy hy
      by_cases hxy' : x = y
      · rw [hxy']; exact Int.le_refl _
      · exact hs2 x y hx (by omega) hy
    rw [e, e]
    by_cases hi' : i < start
    · rw [f1 i hi']
      by_cases hj' : j < mid + m - start
      · rw [f3 j hj hj']; exact le1 _ _ hi (by omega) (by omega)
      · rw [f4 j (by omega)]
        have := h8 (by omega) (by omega)
        have a1 := le1 i (start - 1) hi (by omega) (by omega)
        have a2 := le2 (mid + m - start) j (by omega) (by omega) hjb
        omega
    · rw [f2 i (by omega) him]
      by_cases hj' : j < mid + m - start
      · rw [f3 j hj hj']
        have := h9 (by omega) (by omega)
        have a1 := le2 (m + (i - start)) (mid + m - start - 1) (by omega) (by omega) (by omega)
        have a2 := le1 start (start + (j - mid)) (by omega) (by omega) (by omega)
        omega
      · rw [f4 j (by omega)]; exact le2 _ _ (by omega) (by omega) hjb
theorem hr_perm {a b : Nat} {d d' : Array MCk} (hb : b ≤ d.size) (h : PermIn a b d d') {p : Int → Prop} (hp : ∀ i, a ≤ i → i < b → p (hr d i)) : ∀ i, a ≤ i → i < b → p (hr d' i) :=
  permIn_all d d' a b (fun c => p c.hour) hb h hp
theorem hr_out {a b : Nat} {d d' : Array MCk} (h : PermIn a b d d') {i : Nat} (hi : i < a ∨ b ≤ i) : hr d' i = hr d i := by unfold hr; rw [h.2.1 i hi]
/-- two halves, each sorted, the left one below the right one -/
theorem sorted_two {a mid b : Nat} {d1 d2 d3 : Array MCk} (hb : b ≤ d1.size) (ham : a ≤ mid) (hmb : mid ≤ b) (hcross : ∀ i j, a ≤ i → i < mid → mid ≤ j → j < b → hr d1 i ≤ hr d1 j)
    (p1 : PermIn a mid d1 d2) (s1 : SortedIn ltH a mid d2) (p2 : PermIn mid b d2 d3) (s2 : SortedIn ltH mid b d3) : SortedIn ltH a b d3 := by
  rw [sortedIn_iff] at *
  have hb2 : b ≤ d2.size := by rw [p1.1]; exact hb
  have c2 : ∀ i j, a ≤ i → i < mid → mid ≤ j → j < b → hr d2 i ≤ hr d2 j := by
    intro i j h1 h2 h3 h4
    rw [hr_out p1 (.inr h3)]
    exact hr_perm (by omega) p1 (p := fun x => x ≤ hr d1 j) (fun i' h1' h2' => hcross i' j h1' h2' h3 h4) i h1 h2
  have c3 : ∀ i j, a ≤ i → i < mid → mid ≤ j → j < b → hr d3 i ≤ hr d3 j := by
    intro i j h1 h2 h3 h4
    rw [hr_out p2 (.inl h2)]
    exact hr_perm hb2 p2 (p := fun x => hr d2 i ≤ x) (fun j' h1' h2' => c2 i j' h1 h2 h1' h2') j h3 h4
  intro i j h1 h2 h3
  by_cases hj : j < mid
  · rw [hr_out p2 (.inl (by omega)), hr_out p2 (.inl hj)]; exact s1 i j h1 h2 hj
  · by_cases hi : i < mid
    · exact c3 i j h1 hi (by omega) h3
    · exact s2 i j (by omega) h2 h3
/-- one element ahead of a sorted block: put behind those that are less -/
theorem merge_one_l {d d1 : Array MCk} {a b i : Nat} (hai : a < i) (hib : i ≤ b) (hs : SortedIn ltH (a + 1) b d) (hl : a + 1 < i → hr d (i - 1) ≤ hr d a) (hg : i < b → hr d a ≤ hr d i)
    (h : Same d d1 (fun k => if a ≤ k ∧ k + 1 < i then k + 1 else if k + 1 = i then a else k)) : SortedIn ltH a b d1 := by
  rw [sortedIn_iff] at *
  have e := h.hr
  have le : ∀ x y, a + 1 ≤ x → x ≤ y → y < b → hr d x ≤ hr d y := by
    intro x y hx hxy hy
    by_cases hxy' : x = y
    · rw [hxy']; exact Int.le_refl _
    · exact hs x y hx (by omega) hy
  intro x y hx hxy hy
  rw [e, e]
  (try dsimp only)
  by_cases hx1 : x + 1 < i
  · rw [if_pos ⟨hx, hx1⟩]
    by_cases hy1 : y + 1 < i
    · rw [if_pos ⟨by omega, hy1⟩]; exact le _ _ (by omega) (by omega) (by omega)
    · rw [if_neg (by omega)]
      by_cases hy2 : y + 1 = i
      · rw [if_pos hy2]; have := hl (by omega); have := le (x + 1) (i - 1) (by omega) (by omega) (by omega); omega
      · rw [if_neg hy2]; exact le _ _ (by omega) (by omega) hy
  · rw [if_neg (by omega)]
    by_cases hx2 : x + 1 = i
    · rw [if_pos hx2, if_neg (by omega), if_neg (by omega)]
      have := hg (by omega); have := le i y (by omega) (by omega) hy; omega
    · rw [if_neg hx2, if_neg (by omega), if_neg (by omega)]; exact le _ _ (by omega) (by omega) hy
/-- one element behind a sorted block: put ahead of those that are greater -/
theorem merge_one_r {d d1 : Array MCk} {a m i : Nat} (hai : a ≤ i) (him : i ≤ m) (hs : SortedIn ltH a m d) (hl : a < i → hr d (i - 1) ≤ hr d m) (hg : i < m → hr d m ≤ hr d i)
    (h : Same d d1 (fun k => if k = i then m else if i < k ∧ k ≤ m then k - 1 else k)) : SortedIn ltH a (m + 1) d1 := by
  rw [sortedIn_iff] at *
  have e := h.hr
  have le : ∀ x y, a ≤ x → x ≤ y → y < m → hr d x ≤ hr d y := by
    intro x y hx hxy hy
    by_cases hxy' : x = y
    · rw [hxy']; exact Int.le_refl _
    · exact hs x y hx (by omega) hy
  intro x y hx hxy hy
  rw [e, e]
  (try dsimp only)
  by_cases hy1 : y = i
  · rw [if_pos hy1, if_neg (by omega), if_neg (by omega)]
    have := hl (by omega); have := le x (i - 1) hx (by omega) (by omega); omega
  · rw [if_neg hy1]
    by_cases hy2 : i < y ∧ y ≤ m
    · rw [if_pos hy2]
      by_cases hx1 : x = i
      · rw [if_pos hx1]; have := hg (by omega); have := le i (y - 1) (by omega) (by omega) (by omega); omega
      · rw [if_neg hx1]
        by_cases hx2 : i < x ∧ x ≤ m
        · rw [if_pos hx2]; exact le _ _ (by omega) (by omega) (by omega)
        · rw [if_neg hx2]; exact le _ _ hx (by omega) (by omega)
    · rw [if_neg hy2, if_neg (by omega), if_neg (by omega)]; exact le _ _ hx (by omega) (by omega)
theorem shl_step {d d1 : Array MCk} {a k : Nat} (h : Same d d1 (fun x => if a ≤ x ∧ x < k then x + 1 else if x = k then a else x)) (hak : a ≤ k) (hk : k + 1 < d.size) : Same d (swp d1 k (k + 1)) (fun x => if a ≤ x ∧ x < k + 1 then x + 1 else if x = k + 1 then a else x) := by
  have h2 := swp_at (d := d1) (i := k) (j := k + 1) (by rw [h.1]; omega) (by rw [h.1]; omega)
  refine (h.trans h2).to fun x => ?_
  (try dsimp only)
  repeat' split
  all_goals omega
theorem shr_step {d d1 : Array MCk} {m k : Nat} (h : Same d d1 (fun x => if x = k + 1 then m else if k + 1 < x ∧ x ≤ m then x - 1 else x)) (hkm : k + 1 ≤ m) (hm : m < d.size) : Same d (swp d1 (k + 1) k) (fun x => if x = k then m else if k < x ∧ x ≤ m then x - 1 else x) := by
  have h2 := swp_at (d := d1) (i := k + 1) (j := k) (by rw [h.1]; omega) (by rw [h.1]; omega)
  refine (h.trans h2).to fun x => ?_
  (try dsimp only)
  repeat' split
  all_goals omega
end

section
open Go.RowKit

open Go.Sort
/-- the block g holds an array that P tells of; old memory but g is as it was -/
def SortRes (g : Nat) (w : World) (P : Array MCk → Prop) (e : Ending) (w' : World) : Prop := e = .returned (.tuple #[]) ∧ ∃ d', Cells w' g (fl d') ∧ P d' ∧ OldB [g] w w'
def PermAll (a b n : Nat) (d d' : Array MCk) : Prop := ∀ lo hi, lo ≤ a → lo ≤ b → a + n ≤ hi → b + n ≤ hi → hi ≤ d.size → PermIn lo hi d d'
theorem permAll_step {a b n i : Nat} {d d1 : Array MCk} (h : PermAll a b i d d1) (hi : i < n) (hs : d1.size = d.size) (ha : a + n ≤ d.size) (hb : b + n ≤ d.size) : PermAll a b (i + 1) d (swp d1 (a + i) (b + i)) := by
  intro lo hi' h1 h2 h3 h4 h5; exact permIn_trans _ _ _ _ _ (h lo hi' h1 h2 (by omega) (by omega) h5) (swp_permIn d1 lo hi' (a + i) (b + i) (by omega) (by omega) (by omega) (by omega) (by omega))
theorem callQ {P : Program} {f : FuncId} {args : Array Value} {w0 w : World} {v : Value} (h : Calls P f args w fun e w' => e = .returned v ∧ Below w.heap.size w w') (hb : Below w0.heap.size w0 w) : Calls P f args w fun e w'' => e = .returned v ∧ Below w0.heap.size w0 w'' :=
  h.mono fun _ _ h => ⟨h.1, hb.trans (h.2.mono hb.size)⟩
theorem callQs {P : Program} {f : FuncId} {args : Array Value} {w0 w : World} {v : Value} (h : Calls P f args w fun e w' => e = .returned v ∧ w = w') (hb : Below w0.heap.size w0 w) : Calls P f args w fun e w'' => e = .returned v ∧ Below w0.heap.size w0 w'' :=
  h.mono fun _ _ h => ⟨h.1, by rw [← h.2]; exact hb⟩
theorem toNat_add (a i : Nat) : ((a : Int) + (i : Int)).toNat = a + i := by omega

theorem fl_el {w : World} {g : Nat} {d : Array MCk} (h : Cells w g (fl d)) {i : Nat} (hi : i < d.size) : ∃ x, Hid (d[i]! = x) ∧ w.cell? ⟨g, i * 3, none⟩ = some (.int .i64 x.hour) ∧ w.cell? ⟨g, i * 3 + 1, none⟩ = some (.int .i64 x.volt) ∧ w.cell? ⟨g, i * 3 + 2, none⟩ = some (.bool x.passed) :=
  ⟨_, hid rfl, fl_get h hi⟩
theorem fl_is {w : World} {g : Nat} {d : Array MCk} (h : Cells w g (fl d)) {i : Nat} {x : MCk} (hi : i < d.size) (hx : Hid (d[i]! = x)) : w.cell? ⟨g, i * 3, none⟩ = some (.int .i64 x.hour) ∧ w.cell? ⟨g, i * 3 + 1, none⟩ = some (.int .i64 x.volt) ∧ w.cell? ⟨g, i * 3 + 2, none⟩ = some (.bool x.passed) := by
  have := fl_get h hi; rwa [hx.out] at this
theorem fl_swap {w : World} {g : Nat} {d : Array MCk} {i j : Nat} {x y : MCk} (hx : Hid (d[i]! = x)) (hy : Hid (d[j]! = y)) (h : Cells w g (fl ((d.setIfInBounds i y).setIfInBounds j x))) : Cells w g (fl (swp d i j)) := by
  unfold swp; rw [hx.out, hy.out]; exact h

set_option maxRecDepth 100000 in
set_option maxHeartbeats 1000000 in
theorem look2_any (x : MCk) (w : World) :
    Calls Try.prog 73 #[.agg #[.int .i64 x.hour, .int .i64 x.volt, .bool x.passed]] w (fun e w' => e = .returned (.int .i64 x.hour) ∧ Below w.heap.size w w') := by
 refine enter_F Try.func73 rfl Try.ntmps73 (by simp) ?_
 intro s0 hs; have sl0 : s0 0 = .agg #[.int .i64 x.hour, .int .i64 x.volt, .bool x.passed] := hs 0 (by simp); clear hs; have HB := hid (OldB.refl [] w)
 repeat ((fail_if_success refine stp ?_); with_reducible go_step)
 refine region_F ?_; refine pa (fun w1 B1 hB kb1' hb2 => ?_); have gb1 := HB.out.gB hB; have eb1 := eB hB; clear hB; replace HB := hid (HB.out.below hb2); clear hb2; have kb1 := kb1'; clear kb1'; have qb1 := kb1.1; refine pl ?_; refine listF_abs (fun s3 z' => ?_); have sl1 := gu 1 z'; clear z' sl0; refine listF_nil ?_
 repeat ((fail_if_success refine stp ?_); with_reducible go_step)
 refine region_F ?_; refine pl ?_; have cb1_0 := kb1.cell 0 rfl; have cb1_1 := kb1.cell 1 rfl; have cb1_2 := kb1.cell 2 rfl; refine pl ?_; refine pl ?_; refine listF_abs (fun s4 z' => ?_); have sl2 := gu 2 z'; clear z' sl1; refine listF_nil ?_
 repeat ((fail_if_success refine stp ?_); with_reducible go_step)
 refine ret_F _ (res_t Try.results73 ((getD_F (by decide)).trans sl2)) ?_; exact ⟨rfl, HB.out.toBelow⟩

set_option maxRecDepth 100000 in
set_option maxHeartbeats 1000000 in
theorem cmp_any (x y : MCk) (O : Nat) (w : World) (hO : Cells w O [.func (.func 73) #[] #[]]) (hx : hourOk x) (hy : hourOk y) :
    Calls Try.prog 85 #[.agg #[.int .i64 x.hour, .int .i64 x.volt, .bool x.passed], .agg #[.int .i64 y.hour, .int .i64 y.volt, .bool y.passed], .pointer (some ⟨O, 0, none⟩)] w (fun e w' => e = .returned (.int .i64 (x.hour - y.hour)) ∧ Below w.heap.size w w') := by
 obtain ⟨x1, x2⟩ := hx; obtain ⟨y1, y2⟩ := hy; have wxy : IntKind.i64.wrap (x.hour - y.hour) = x.hour - y.hour := IntWalk.i64_in _ (by omega); have kO := hO
 refine enter_F Try.func85 rfl Try.ntmps85 (by simp) ?_
 intro s0 hs; have sl0 : s0 0 = .agg #[.int .i64 x.hour, .int .i64 x.volt, .bool x.passed] := hs 0 (by simp); have sl1 : s0 1 = .agg #[.int .i64 y.hour, .int .i64 y.volt, .bool y.passed] := hs 1 (by simp); have sl2 : s0 2 = .pointer (some ⟨O, 0, none⟩) := hs 2 (by simp); clear hs; have HB := hid (OldB.refl [] w); have qO := kO.1
 repeat ((fail_if_success refine stp ?_); with_reducible go_step)
 refine region_F ?_; refine pa (fun w1 B3 hB kb3' hb2 => ?_); have gb3 := HB.out.gB hB; have oO_b3 := oB qO hB; have eb3 := eB hB; clear hB; clear qO; replace kO := kO.at hb2; replace HB := hid (HB.out.below hb2); clear hb2; have qO := kO.1; have kb3 := kb3'; clear kb3'; have qb3 := kb3.1; refine pa (fun w3 B4 hB kb4' hb4 => ?_); have gb4 := HB.out.gB hB; have oO_b4 := oB qO hB; have ob3_b4 := oB qb3 hB; have eb4 := eB hB; clear hB; clear qO qb3; replace kO := kO.at hb4; replace kb3 := kb3.at hb4; replace HB := hid (HB.out.below hb4); clear hb4; have qO := kO.1; have qb3 := kb3.1; have kb4 := kb4'; clear kb4'; have qb4 := kb4.1; refine pl ?_; refine listF_abs (fun s5 z' => ?_); replace sl2 := gs 2 z' sl2; have sl3 := gu 3 z'; have sl4 := gu 4 z'; clear z' sl0 sl1; refine listF_nil ?_
 repeat ((fail_if_success refine stp ?_); with_reducible go_step)
 have cO_0 := kO.cell 0 rfl; have cb3_0 := kb3.cell 0 rfl; have cb3_1 := kb3.cell 1 rfl; have cb3_2 := kb3.cell 2 rfl; have cb4_0 := kb4.cell 0 rfl; have cb4_1 := kb4.cell 1 rfl; have cb4_2 := kb4.cell 2 rfl; refine regionR_F [] [] [] [.q [], .q [], .q [], .q [], .q [], .q [], .q []] [?v4_0, ?v4_1, ?v4_2, ?v4_3, ?v4_4, ?v4_5, ?v4_6] [fun _ => [], fun _ => [], fun _ => [], fun _ => [], fun _ => [], fun _ => [], fun _ => []] (by kernel_rfl) (by kernel_rfl) (by kernel_rfl) (by kernel_rfl) (by kernel_rfl) (by first | exact List.nodup_nil | exact List.nodup_singleton _ | (simp; done) | (simp; omega)) bc_nil ?walk4 ?dep4
 case walk4 =>
  iterate 3 refine rq ?_
  refine walkR_q (by rfl) (fun X hX wq hwq hrq => ?_) ?_
  · obtain ⟨hcq, hfq⟩ := hwq.b0
    clear hrq; go_simp
    (exact look2_any x _)
  iterate 3 refine rq ?_
  refine walkR_nil (fun X hX w6 hwz hcz => ?_); clear hX hcz
  (try clear X)
  skip; have hb7 := hwz.unDrew; clear hwz; clear cO_0 cb3_0 cb3_1 cb3_2 cb4_0 cb4_1 cb4_2; clear qO qb3 qb4; replace kO := kO.oldB hb7 (by first | (simp; done) | (simp; omega)); replace kb3 := kb3.oldB hb7 (by first | (simp; done) | (simp; omega)); replace kb4 := kb4.oldB hb7 (by first | (simp; done) | (simp; omega)); replace HB := hid (HB.out.more hb7 (by simp; try omega)); clear hb7; have qO := kO.1; have qb3 := kb3.1; have qb4 := kb4.1; refine listF_step rfl (fun K' hK => ?_); unfold opF; go_simp; refine (look2_any y _).mono ?_; rintro e w8 ⟨rfl, hb9⟩; refine ⟨_, rfl, hK _ _ ?_⟩; clear hK K'; clear qO qb3 qb4; replace kO := kO.at hb9; replace kb3 := kb3.at hb9; replace kb4 := kb4.at hb9; replace HB := hid (HB.out.below hb9); clear hb9; have qO := kO.1; have qb3 := kb3.1; have qb4 := kb4.1; refine pl ?_; refine pl ?_; refine listF_abs (fun s10 z' => ?_); have sl5 := gu 5 z'; clear z' sl2 sl3 sl4; refine listF_nil ?_
  repeat ((fail_if_success refine stp ?_); with_reducible go_step)
  refine ret_F _ (res_t Try.results85 ((getD_F (by decide)).trans sl5)) ?_; exact ⟨rfl, HB.out.toBelow⟩
 case dep4 =>
   iterate 7 refine dR ?_
   exact depR_nil

set_option maxRecDepth 100000 in
set_option maxHeartbeats 1000000 in
theorem swapRange_any (g cap O N : Nat) (d : Array MCk) (hN : d.size = N) (a b n : Nat) (w : World) (hg : Cells w g (fl d)) (hsz : d.size ≤ 1000) (hab : a + n ≤ b ∨ b + n ≤ a) (ha : a + n ≤ d.size) (hb : b + n ≤ d.size) :
    Calls Try.prog 92 #[.slice (some ⟨g, 0, none⟩) N cap, .int .i64 (a : Int), .int .i64 (b : Int), .int .i64 (n : Int), .func (.func 85) #[] #[.pointer (some ⟨O, 0, none⟩)]] w (SortRes g w (fun d' => Same d d' (swF a b n) ∧ PermAll a b n d d')) := by
 obtain rfl := hN; have kg := hg
 refine enter_F Try.func92 rfl Try.ntmps92 (by simp) ?_
 intro s0 hs; have sl0 : s0 0 = .slice (some ⟨g, 0, none⟩) d.size cap := hs 0 (by simp); have sl1 : s0 1 = .int .i64 (a : Int) := hs 1 (by simp); have sl2 : s0 2 = .int .i64 (b : Int) := hs 2 (by simp); have sl3 : s0 3 = .int .i64 (n : Int) := hs 3 (by simp); have sl4 : s0 4 = .func (.func 85) #[] #[.pointer (some ⟨O, 0, none⟩)] := hs 4 (by simp); clear hs; have HB := hid (OldB.refl [g] w); have qg := kg.1
 repeat ((fail_if_success refine stp ?_); with_reducible go_step)
 refine region_F ?_; refine pl ?_; refine listF_abs (fun s1 z' => ?_); replace sl0 := gs 0 z' sl0; replace sl1 := gs 1 z' sl1; replace sl2 := gs 2 z' sl2; replace sl3 := gs 3 z' sl3; have sl10 := gu 10 z'; clear z' sl4; refine listF_nil ?_
 repeat ((fail_if_success refine stp ?_); with_reducible go_step)
 have hc0_0 := hid sl0; have hc0_1 := hid sl1; have hc0_2 := hid sl2; have hc0_3 := hid sl3; refine loop_F (n := 38) (fun kJ sJ wJ => ∃ (i : Nat) (d1 : Array MCk), kJ = n - i ∧ sJ 10 = .int .i64 (i : Int) ∧ sJ 0 = s1 0 ∧ sJ 1 = s1 1 ∧ sJ 2 = s1 2 ∧ sJ 3 = s1 3 ∧ OldB [g] w wJ ∧ Cells wJ g (fl d1) ∧ i ≤ n ∧ Hid (Same d d1 (swF a b i)) ∧ Hid (PermAll a b i d d1)) ⟨0, d, rfl, (by first | exact sl10 | (rw [sl10]; go_num) | (rw [sl10]; rfl)), rfl, rfl, rfl, rfl, OldB.refl _ _, (by first | (with_reducible exact kg) | (apply Cells.conv; (focus (exact kg)); (first | rfl | (simp; done)))), Nat.zero_le _, hid ((Same.refl d).to (fun k => by unfold swF; (repeat' split) <;> omega)), hid (fun lo hi _ _ _ _ _ => permIn_refl d lo hi)⟩ ?_; clear sl10; rintro kJ s2 w3 ⟨i, d1, rfl, sl10, e0, e1, e2, e3, hb4, mg', hin, hS, hP⟩; replace sl0 := e0.trans sl0; clear e0; replace sl1 := e1.trans sl1; clear e1; replace sl2 := e2.trans sl2; clear e2
 replace sl3 := e3.trans sl3; clear e3; have hoJ := hb4; clear qg; replace kg := mg'; replace HB := hid (HB.out.more hb4 (by simp; try omega)); clear hb4; have qg := kg.1; clear mg'; have HoJ := hid hoJ; clear hoJ; have HL5 := HoJ; clear HoJ
 repeat ((fail_if_success refine stp ?_); with_reducible go_step)
 refine region_F ?_
 iterate 3 refine pl ?_
 refine listF_abs (fun s6 z' => ?_); replace sl0 := gs 0 z' sl0; replace sl1 := gs 1 z' sl1; replace sl2 := gs 2 z' sl2; replace sl3 := gs 3 z' sl3; replace sl10 := gs 10 z' sl10; have sl13 := gu 13 z'; clear z'; refine listF_nil ?_
 repeat ((fail_if_success refine stp ?_); with_reducible go_step)
 refine cond_E sl13 (by decide) ?_ ?_ <;> (clear sl13; intro h13 sl13)
 ·skip
  have hlt : i < n := by simpa using h13
  have hai : a + i < d1.size := by rw [hS.out.1]; omega
  have hbi : b + i < d1.size := by rw [hS.out.1]; omega
  have hai' : (a : Int) + (i : Int) < d.size := by omega
  have hbi' : (b : Int) + (i : Int) < d.size := by omega
  have ta := toNat_add a i; have tb := toNat_add b i; have wa : IntKind.i64.wrap ((a : Int) + (i : Int)) = (a : Int) + (i : Int) := IntWalk.i64_in _ (by omega); have wb : IntKind.i64.wrap ((b : Int) + (i : Int)) = (b : Int) + (i : Int) := IntWalk.i64_in _ (by omega)
  have za : 0 ≤ (a : Int) + (i : Int) := by omega
  have zb : 0 ≤ (b : Int) + (i : Int) := by omega
  repeat ((fail_if_success refine stp ?_); with_reducible go_step)
  refine regionR_F [g] [(fl d1)] [24] [.q [], .q [], .q [], .q [], .q [], .q [], .q [], .q [], .q [], .q [], .q [], .q [], .q [], .q [24], .q [], .q [], .q [], .q [], .q [], .q [24], .q [], .st 24] [?v5_0, ?v5_1, ?v5_2, ?v5_3, ?v5_4, ?v5_5, ?v5_6, ?v5_7, ?v5_8, ?v5_9, ?v5_10, ?v5_11, ?v5_12, ?v5_13, ?v5_14, ?v5_15, ?v5_16, ?v5_17, ?v5_18, ?v5_19, ?v5_20, fun _ => undef] [fun _ => [], fun _ => [], fun _ => [], fun _ => [], fun _ => [], fun _ => [], fun _ => [], fun _ => [], fun _ => [], fun _ => [], fun _ => [], fun _ => [], fun _ => [], fun _ => [], fun _ => [], fun _ => [], fun _ => [], fun _ => [], fun _ => [], fun _ => [], fun _ => [], ?c5_21] (by kernel_rfl) (by kernel_rfl) (by kernel_rfl) (by kernel_rfl) (by kernel_rfl) (by first | exact List.nodup_nil | exact List.nodup_singleton _ | (simp; done) | (simp; omega)) (bc_cons (by repeat (first | (with_reducible exact kg) | (with_reducible refine Cells.drew ?_) | (with_reducible refine Cells.up ?_ _) | (with_reducible refine Cells.setFar ?_ (by omega)))) bc_nil) ?walk5 ?dep5
  case walk5 =>
   iterate 13 refine rq ?_
   refine walkR_q (by rfl) (fun X hX wq hwq hrq => ?_) ?_
   · obtain ⟨hcq, hfq⟩ := hwq.b1
     have kq24 := hrq 24 (by simp); rw [show X 24 = g from hX.at0 0 _ rfl] at kq24; replace kq24 : Cells wq g ((fl d1)) := kq24; have kqs24 := kq24.1; obtain ⟨f0, f1, f2⟩ := fl_get kq24 hai; obtain ⟨f3, f4, f5⟩ := fl_get kq24 hbi; clear hrq; go_simp
     (first | rfl | exact ⟨rfl, rfl⟩)
   iterate 5 refine rq ?_
   refine walkR_q (by rfl) (fun X hX wq hwq hrq => ?_) ?_
   · obtain ⟨hcq, hfq⟩ := hwq.b1
     have kq24 := hrq 24 (by simp); rw [show X 24 = g from hX.at0 0 _ rfl] at kq24; replace kq24 : Cells wq g ((fl d1)) := kq24; have kqs24 := kq24.1; obtain ⟨f0, f1, f2⟩ := fl_get kq24 hai; obtain ⟨f3, f4, f5⟩ := fl_get kq24 hbi; clear hrq; go_simp
     (first | rfl | exact ⟨rfl, rfl⟩)
   refine rq ?_; refine walkR_st (by rfl) (fun X hX wq hwq hkq => ?_) ?_
   · rw [show X 24 = g from hX.at0 0 _ rfl] at hkq ⊢
     replace hkq : Cells wq g ((fl d1)) := hkq; have hks := hkq.1; have hkz := hkq.2.2; obtain ⟨f0, f1, f2⟩ := fl_get hkq hai; go_simp
     (first | ((with_reducible refine writeB_mk (Cells.set (Cells.set (Cells.set hkq))) ?_ ?_); (focus (repeat (first | (with_reducible exact Only.refl _ _) | (with_reducible refine Only.set ?_)))); rfl))
   refine walkR_nil (fun X hX w7 hwz hcz => ?_); have kz0 := hcz 24 (by simp); rw [show X 24 = g from hX.at0 0 _ rfl] at kz0
   simp only [updC_some, updC_none, Nat.reduceEqDiff, ↓reduceIte] at kz0
   clear hX hcz
   (try clear X)
   skip; have hb8 := hwz.unDrew; clear hwz
   (try simp only [vC, List.set_cons_zero, List.set_cons_succ] at kz0)
   clear qg; replace kg := kz0; replace HL5 := hid (HL5.out.more hb8 (by simp; try omega)); replace HB := hid (HB.out.more hb8 (by simp; try omega)); clear hb8; have qg := kg.1; clear kz0; rw [fl_set _ hai] at kg; refine pl ?_; have zg := kg.2.2; obtain ⟨f3, f4, f5⟩ := fl_get kg (i := b + i) (by simpa using hbi); refine pl ?_; refine listF_absw ?_; intro w9 hw'; have kg' := cells_of hw' (Cells.set (Cells.set (Cells.set (kg)))); rw [fl_set _ (by simpa using hbi)] at kg'; have hb10 : OldB [g] w7 w9 := oldset hw'; clear hw'; clear zg; clear qg; replace kg := kg'; replace HL5 := hid (HL5.out.more hb10 (by simp; try omega)); replace HB := hid (HB.out.more hb10 (by simp; try omega)); clear hb10; have qg := kg.1; clear kg'; refine listF_abs (fun s11 z' => ?_); replace sl0 := gs 0 z' sl0; replace sl1 := gs 1 z' sl1; replace sl2 := gs 2 z' sl2; replace sl3 := gs 3 z' sl3; replace sl10 := gs 10 z' sl10; clear z' sl13; refine listF_nil ?_
   repeat ((fail_if_success refine stp ?_); with_reducible go_step)
   refine region_F ?_
   iterate 3 refine pl ?_
   refine listF_abs (fun s12 z' => ?_); replace sl0 := gs 0 z' sl0; replace sl1 := gs 1 z' sl1; replace sl2 := gs 2 z' sl2; replace sl3 := gs 3 z' sl3; replace sl10 := gu 10 z'; clear z'; refine listF_nil ?_
   repeat ((fail_if_success refine stp ?_); with_reducible go_step)
   refine ⟨_, _, rfl, ?_, i + 1, swp d1 (a + i) (b + i), rfl, (by first | (with_reducible exact sl10) | (rw [sl10]; (with_reducible go_num); done) | (rw [sl10, IntWalk.i64_in] <;> first | ((with_reducible go_num); done) | omega) | (rw [sl10]; go_num; done) | (rw [sl10]; simp; done) | (rw [sl10]; simp; omega)), (sl0.trans hc0_0.out.symm), (sl1.trans hc0_1.out.symm), (sl2.trans hc0_2.out.symm), (sl3.trans hc0_3.out.symm), HL5.out, (by apply Cells.conv; (focus (exact kg)); (first | rfl | (simp [swp, getElem!_pos d1 (a + i) hai, getElem!_pos d1 (b + i) hbi]; done) | simp [swp])), by omega, hid (sw_step hS.out hlt hab ha hb), hid (permAll_step hP.out hlt hS.out.1 ha hb)⟩
   omega
  case dep5 =>
    iterate 22 refine dR ?_
    exact depR_nil
 ·skip
  have hge : ¬ i < n := by simpa using h13
  obtain rfl : i = n := by omega
  repeat ((fail_if_success refine stp ?_); with_reducible go_step)
  clear HL5; clear hc0_0 hc0_1 hc0_2 hc0_3; refine norm_F _ (res_none Try.results92) ?_; exact ⟨rfl, d1, kg, ⟨hS.out, hP.out⟩, HB.out⟩
end

section
open Go.RowKit

open Go.Sort
set_option maxRecDepth 100000 in
set_option maxHeartbeats 1000000 in
theorem rotate_any (g cap O N : Nat) (d : Array MCk) (hN : d.size = N) (a m b : Nat) (w : World) (hg : Cells w g (fl d)) (hsz : d.size ≤ 1000) (ham : a < m) (hmb : m < b) (hb : b ≤ d.size) :
    Calls Try.prog 91 #[.slice (some ⟨g, 0, none⟩) N cap, .int .i64 (a : Int), .int .i64 (m : Int), .int .i64 (b : Int), .func (.func 85) #[] #[.pointer (some ⟨O, 0, none⟩)]] w (SortRes g w (fun d' => Same d d' (rotF a m b) ∧ PermIn a b d d')) := by
 obtain rfl := hN; have kg := hg
 refine enter_F Try.func91 rfl Try.ntmps91 (by simp) ?_
 intro s0 hs; have sl0 : s0 0 = .slice (some ⟨g, 0, none⟩) d.size cap := hs 0 (by simp); have sl1 : s0 1 = .int .i64 (a : Int) := hs 1 (by simp); have sl2 : s0 2 = .int .i64 (m : Int) := hs 2 (by simp); have sl3 : s0 3 = .int .i64 (b : Int) := hs 3 (by simp); have sl4 : s0 4 = .func (.func 85) #[] #[.pointer (some ⟨O, 0, none⟩)] := hs 4 (by simp); clear hs; have HB := hid (OldB.refl [g] w); have qg := kg.1
 repeat ((fail_if_success refine stp ?_); with_reducible go_step)
 refine region_F ?_; refine pl ?_; refine pl ?_
 have ema : (m : Int) - (a : Int) = ((m - a : Nat) : Int) := by omega
 have wema : IntKind.i64.wrap ((m : Int) - (a : Int)) = ((m - a : Nat) : Int) := by rw [IntWalk.i64_in _ (by omega)]; omega
 have vema : IntKind.i64.wrap ((m - a : Nat) : Int) = ((m - a : Nat) : Int) := IntWalk.i64_in _ (by omega); refine pl ?_; refine pl ?_; refine listF_abs (fun s1 z' => ?_); replace sl0 := gs 0 z' sl0; replace sl2 := gs 2 z' sl2; replace sl3 := gs 3 z' sl3; replace sl4 := gs 4 z' sl4; have sl10 := gu 10 z'; clear z' sl1; refine listF_nil ?_
 repeat ((fail_if_success refine stp ?_); with_reducible go_step)
 refine region_F ?_; refine pl ?_; refine pl ?_
 have ebm : (b : Int) - (m : Int) = ((b - m : Nat) : Int) := by omega
 have webm : IntKind.i64.wrap ((b : Int) - (m : Int)) = ((b - m : Nat) : Int) := by rw [IntWalk.i64_in _ (by omega)]; omega
 have vebm : IntKind.i64.wrap ((b - m : Nat) : Int) = ((b - m : Nat) : Int) := IntWalk.i64_in _ (by omega); refine pl ?_; refine pl ?_; refine listF_abs (fun s2 z' => ?_); replace sl0 := gs 0 z' sl0; replace sl2 := gs 2 z' sl2; replace sl4 := gs 4 z' sl4; replace sl10 := gs 10 z' sl10; have sl11 := gu 11 z'; clear z' sl3; refine listF_nil ?_
 repeat ((fail_if_success refine stp ?_); with_reducible go_step)
 have hc0_0 := hid sl0; have hc0_2 := hid sl2; have hc0_4 := hid sl4; refine loop_F (n := 58) (fun kJ sJ wJ => ∃ (i j : Nat) (d1 : Array MCk), kJ = i + j ∧ sJ 10 = .int .i64 (i : Int) ∧ sJ 11 = .int .i64 (j : Int) ∧ sJ 0 = s2 0 ∧ sJ 2 = s2 2 ∧ sJ 4 = s2 4 ∧ OldB [g] w wJ ∧ Cells wJ g (fl d1) ∧ 0 < i ∧ 0 < j ∧ i ≤ m - a ∧ m + j ≤ b ∧ (Hid (∀ d', Same d1 d' (rotF (m - i) m (m + j)) → Same d d' (rotF a m b))) ∧ Hid (PermIn a b d d1)) ⟨m - a, b - m, d, rfl, (by first | exact sl10 | (rw [sl10]; go_num) | (rw [sl10]; rfl)), (by first | exact sl11 | (rw [sl11]; go_num) | (rw [sl11]; rfl)), rfl, rfl, rfl, OldB.refl _ _, (by first | (with_reducible exact kg) | (apply Cells.conv; (focus (exact kg)); (first | rfl | (simp; done)))), by omega, by omega, Nat.le_refl _, by omega, hid (fun d' h => h.to (fun k => by rw [show m - (m - a) = a by omega, show m + (b - m) = b by omega])), hid (permIn_refl d a b)⟩ ?_
 clear sl10 sl11; rintro kJ s3 w4 ⟨i, j, d1, rfl, sl10, sl11, e0, e2, e4, hb5, mg', hi0, hj0, him, hjb, hS, hP⟩; replace sl0 := e0.trans sl0; clear e0; replace sl2 := e2.trans sl2; clear e2; replace sl4 := e4.trans sl4; clear e4; have hoJ := hb5; clear qg; replace kg := mg'; replace HB := hid (HB.out.more hb5 (by simp; try omega)); clear hb5; have qg := kg.1; clear mg'; have HoJ := hid hoJ; clear hoJ; have hs1 : d1.size = d.size := hP.out.1; have hs1' := hid hs1
 have hb1 : b ≤ d1.size := by omega
 have hz1 : d1.size ≤ 1000 := by omega
 clear hs1; have HL6 := HoJ; clear HoJ
 repeat ((fail_if_success refine stp ?_); with_reducible go_step)
 refine region_F ?_
 iterate 3 refine pl ?_
 refine listF_abs (fun s7 z' => ?_); replace sl0 := gs 0 z' sl0; replace sl2 := gs 2 z' sl2; replace sl4 := gs 4 z' sl4; replace sl10 := gs 10 z' sl10; replace sl11 := gs 11 z' sl11; have sl20 := gu 20 z'; clear z'; refine listF_nil ?_
 repeat ((fail_if_success refine stp ?_); with_reducible go_step)
 refine cond_E sl20 (by decide) ?_ ?_ <;> (clear sl20; intro h20 sl20)
 ·skip
  have h20n : ¬ i = j := by have : ¬ (i : Int) = (j : Int) := (by simpa using h20); omega
  repeat ((fail_if_success refine stp ?_); with_reducible go_step)
  refine region_F ?_
  iterate 3 refine pl ?_
  refine listF_abs (fun s8 z' => ?_); replace sl0 := gs 0 z' sl0; replace sl2 := gs 2 z' sl2; replace sl4 := gs 4 z' sl4; replace sl10 := gs 10 z' sl10; replace sl11 := gs 11 z' sl11; have sl23 := gu 23 z'; clear z' sl20; refine listF_nil ?_
  repeat ((fail_if_success refine stp ?_); with_reducible go_step)
  refine cond_E sl23 (by decide) ?_ ?_ <;> (clear sl23; intro h23 sl23)
  ·skip
   have h23' : j < i := by simpa using h23
   repeat ((fail_if_success refine stp ?_); with_reducible go_step)
   refine region_F ?_
   iterate 3 refine pl ?_
   have ei : (m : Int) - (i : Int) = ((m - i : Nat) : Int) := by omega
   have wei : IntKind.i64.wrap ((m : Int) - (i : Int)) = ((m - i : Nat) : Int) := by rw [IntWalk.i64_in _ (by omega)]; omega
   have vei : IntKind.i64.wrap ((m - i : Nat) : Int) = ((m - i : Nat) : Int) := IntWalk.i64_in _ (by omega)
   iterate 4 refine pl ?_
   refine listF_step rfl (fun K' hK => ?_); unfold opF; go_simp; refine (swapRange_any g cap O _ d1 hs1'.out (m - i) (m) (j) _ kg (by omega) (.inl (by omega)) (by omega) (by omega)).mono ?_; rintro e w9 ⟨rfl, d2, kg2, ⟨hS2, hP2⟩, hb10⟩; have hS2 := hid hS2; have hP2 := hid hP2; refine ⟨_, rfl, hK _ _ ?_⟩; clear hK K'; clear qg; replace kg := kg2; replace HL6 := hid (HL6.out.more hb10 (by simp; try omega)); replace HB := hid (HB.out.more hb10 (by simp; try omega)); clear hb10; have qg := kg.1; refine listF_abs (fun s11 z' => ?_); replace sl0 := gs 0 z' sl0; replace sl2 := gs 2 z' sl2; replace sl4 := gs 4 z' sl4; replace sl10 := gs 10 z' sl10; replace sl11 := gs 11 z' sl11; clear z' sl23; refine listF_nil ?_
   repeat ((fail_if_success refine stp ?_); with_reducible go_step)
   refine region_F ?_; refine pl ?_; refine pl ?_
   have eij : (i : Int) - (j : Int) = ((i - j : Nat) : Int) := by omega
   have weij : IntKind.i64.wrap ((i : Int) - (j : Int)) = ((i - j : Nat) : Int) := by rw [IntWalk.i64_in _ (by omega)]; omega
   have veij : IntKind.i64.wrap ((i - j : Nat) : Int) = ((i - j : Nat) : Int) := IntWalk.i64_in _ (by omega); refine pl ?_; refine pl ?_; refine listF_abs (fun s12 z' => ?_); replace sl0 := gs 0 z' sl0; replace sl2 := gs 2 z' sl2; replace sl4 := gs 4 z' sl4; replace sl10 := gu 10 z'; replace sl11 := gs 11 z' sl11; clear z'; refine listF_nil ?_
   repeat ((fail_if_success refine stp ?_); with_reducible go_step)
   refine ⟨_, _, rfl, ?_, i - j, j, d2, rfl, (by first | (with_reducible exact sl10) | (rw [sl10]; (with_reducible go_num); done) | (rw [sl10, IntWalk.i64_in] <;> first | ((with_reducible go_num); done) | omega) | (rw [sl10]; go_num; done) | (rw [sl10]; simp; done) | (rw [sl10]; simp; omega)), (by first | (with_reducible exact sl11) | (rw [sl11]; (with_reducible go_num); done) | (rw [sl11, IntWalk.i64_in] <;> first | ((with_reducible go_num); done) | omega) | (rw [sl11]; go_num; done) | (rw [sl11]; simp; done) | (rw [sl11]; simp; omega)), (sl0.trans hc0_0.out.symm), (sl2.trans hc0_2.out.symm), (sl4.trans hc0_4.out.symm), HL6.out, (by first | (with_reducible exact kg) | (apply Cells.conv; (focus (exact kg)); (first | rfl | (simp; done)))), by omega, by omega, by omega, by omega, hid (fun d' h => hS.out d' ((hS2.out.trans h).to (rot_left (a := a) (b := b) h23' (by omega)))), hid (permIn_trans _ _ _ _ _ hP.out (hP2.out a b (by omega) (by omega) (by omega) (by omega) (by omega)))⟩
   omega
  ·skip
   have h20' : i < j := by have : ¬ j < i := (by simpa using h23); omega
   repeat ((fail_if_success refine stp ?_); with_reducible go_step)
   refine region_F ?_
   iterate 3 refine pl ?_
   have ei : (m : Int) - (i : Int) = ((m - i : Nat) : Int) := by omega
   have wei : IntKind.i64.wrap ((m : Int) - (i : Int)) = ((m - i : Nat) : Int) := by rw [IntWalk.i64_in _ (by omega)]; omega
   have vei : IntKind.i64.wrap ((m - i : Nat) : Int) = ((m - i : Nat) : Int) := IntWalk.i64_in _ (by omega)
   iterate 3 refine pl ?_
   have wmj : IntKind.i64.wrap ((m : Int) + (j : Int)) = (m : Int) + (j : Int) := IntWalk.i64_in _ (by omega); refine pl ?_; refine pl ?_
   have emk : (m : Int) + (j : Int) - (i : Int) = ((m + j - i : Nat) : Int) := by omega
   have wemk : IntKind.i64.wrap ((m : Int) + (j : Int) - (i : Int)) = ((m + j - i : Nat) : Int) := by rw [IntWalk.i64_in _ (by omega)]; omega
   have vemk : IntKind.i64.wrap ((m + j - i : Nat) : Int) = ((m + j - i : Nat) : Int) := IntWalk.i64_in _ (by omega)
   iterate 3 refine pl ?_
   refine listF_step rfl (fun K' hK => ?_); unfold opF; go_simp; refine (swapRange_any g cap O _ d1 hs1'.out (m - i) (m + j - i) (i) _ kg (by omega) (.inl (by omega)) (by omega) (by omega)).mono ?_; rintro e w13 ⟨rfl, d3, kg3, ⟨hS3, hP3⟩, hb14⟩; have hS3 := hid hS3; have hP3 := hid hP3; refine ⟨_, rfl, hK _ _ ?_⟩; clear hK K'; clear qg; replace kg := kg3; replace HL6 := hid (HL6.out.more hb14 (by simp; try omega)); replace HB := hid (HB.out.more hb14 (by simp; try omega)); clear hb14; have qg := kg.1; refine listF_abs (fun s15 z' => ?_); replace sl0 := gs 0 z' sl0; replace sl2 := gs 2 z' sl2; replace sl4 := gs 4 z' sl4; replace sl10 := gs 10 z' sl10; replace sl11 := gs 11 z' sl11; clear z' sl23; refine listF_nil ?_
   repeat ((fail_if_success refine stp ?_); with_reducible go_step)
   refine region_F ?_; refine pl ?_; refine pl ?_
   have eji : (j : Int) - (i : Int) = ((j - i : Nat) : Int) := by omega
   have weji : IntKind.i64.wrap ((j : Int) - (i : Int)) = ((j - i : Nat) : Int) := by rw [IntWalk.i64_in _ (by omega)]; omega
   have veji : IntKind.i64.wrap ((j - i : Nat) : Int) = ((j - i : Nat) : Int) := IntWalk.i64_in _ (by omega); refine pl ?_; refine pl ?_; refine listF_abs (fun s16 z' => ?_); replace sl0 := gs 0 z' sl0; replace sl2 := gs 2 z' sl2; replace sl4 := gs 4 z' sl4; replace sl10 := gs 10 z' sl10; replace sl11 := gu 11 z'; clear z'; refine listF_nil ?_
   repeat ((fail_if_success refine stp ?_); with_reducible go_step)
   refine ⟨_, _, rfl, ?_, i, j - i, d3, rfl, (by first | (with_reducible exact sl10) | (rw [sl10]; (with_reducible go_num); done) | (rw [sl10, IntWalk.i64_in] <;> first | ((with_reducible go_num); done) | omega) | (rw [sl10]; go_num; done) | (rw [sl10]; simp; done) | (rw [sl10]; simp; omega)), (by first | (with_reducible exact sl11) | (rw [sl11]; (with_reducible go_num); done) | (rw [sl11, IntWalk.i64_in] <;> first | ((with_reducible go_num); done) | omega) | (rw [sl11]; go_num; done) | (rw [sl11]; simp; done) | (rw [sl11]; simp; omega)), (sl0.trans hc0_0.out.symm), (sl2.trans hc0_2.out.symm), (sl4.trans hc0_4.out.symm), HL6.out, (by first | (with_reducible exact kg) | (apply Cells.conv; (focus (exact kg)); (first | rfl | (simp; done)))), by omega, by omega, by omega, by omega, hid (fun d' h => hS.out d' ((hS3.out.trans h).to (rot_right h20' (by omega)))), hid (permIn_trans _ _ _ _ _ hP.out (hP3.out a b (by omega) (by omega) (by omega) (by omega) (by omega)))⟩
   omega
 ·skip
  have H20 := hid (show i = j by have : (i : Int) = (j : Int) := (by simpa using h20); omega); clear h20
  repeat ((fail_if_success refine stp ?_); with_reducible go_step)
  clear HL6; clear hc0_0 hc0_2 hc0_4; refine region_F ?_
  iterate 3 refine pl ?_
  have ei : (m : Int) - (i : Int) = ((m - i : Nat) : Int) := by omega
  have wei : IntKind.i64.wrap ((m : Int) - (i : Int)) = ((m - i : Nat) : Int) := by rw [IntWalk.i64_in _ (by omega)]; omega
  have vei : IntKind.i64.wrap ((m - i : Nat) : Int) = ((m - i : Nat) : Int) := IntWalk.i64_in _ (by omega)
  iterate 4 refine pl ?_
  refine listF_step rfl (fun K' hK => ?_); unfold opF; go_simp; refine (swapRange_any g cap O _ d1 hs1'.out (m - i) (m) (i) _ kg (by have := H20.out; omega) (.inl (by have := H20.out; omega)) (by have := H20.out; omega) (by have := H20.out; omega)).mono ?_; rintro e w17 ⟨rfl, d4, kg4, ⟨hS4, hP4⟩, hb18⟩; have hS4 := hid hS4; have hP4 := hid hP4; refine ⟨_, rfl, hK _ _ ?_⟩; clear hK K'; clear qg; replace kg := kg4; replace HB := hid (HB.out.more hb18 (by simp; try omega)); clear hb18; have qg := kg.1; refine listF_abs (fun s19 z' => ?_); clear z' sl0 sl2 sl4 sl10 sl11 sl20; refine listF_nil ?_
  repeat ((fail_if_success refine stp ?_); with_reducible go_step)
  refine norm_F _ (res_none Try.results91) ?_; refine ⟨rfl, d4, kg, ⟨hS.out d4 (hS4.out.to (fun k => ?_)), permIn_trans _ _ _ _ _ hP.out (hP4.out a b (by have := H20.out; omega) (by omega) (by have := H20.out; omega) (by have := H20.out; omega) (by omega))⟩, HB.out⟩; rw [← H20.out]; exact rot_end (by omega) k
end


end Go.Proofs.Ytndcmmghgljinaa
