/- Plain laws of the stable sort's parts: checks by their hours. -/
import Derived.Test.YtndcmmghgljinaaW1
import Derived.Sort.LotA
set_option linter.all false
namespace Go.Proofs.Ytndcmmghgljinaa
open Go.Sort

instance : Inhabited MCk := ⟨⟨0, 0, false⟩⟩
def ltH (x y : MCk) : Bool := decide (x.hour < y.hour)
theorem ltH_swo : SWO ltH where
  irrefl x := by simp [ltH]
  trans x y z h1 h2 := by simp [ltH] at *; omega
  ntrans x y z h1 h2 := by simp [ltH] at *; omega
def fl (d : Array MCk) : List Value := d.toList.flatMap MCk.cs
def hourOk (c : MCk) : Prop := 0 ≤ c.hour ∧ c.hour ≤ 100000
def AllH (d : Array MCk) : Prop := ∀ k, k < d.size → hourOk d[k]!
theorem allH_perm {a b : Nat} {d d' : Array MCk} (hb : b ≤ d.size) (h : PermIn a b d d') (ha : AllH d) : AllH d' := by
  intro k hk
  rw [h.1] at hk
  by_cases hin : a ≤ k ∧ k < b
  · exact permIn_all d d' a b hourOk hb h (fun i h1 h2 => ha i (by omega)) k hin.1 hin.2
  · rw [h.2.1 k (by omega)]; exact ha k hk
theorem getB {d : Array MCk} {i : Nat} (hi : i < d.size) : d.toList[i]? = some d[i]! := by
  rw [getElem!_pos d i hi]; simp [hi]
theorem fl_get {w : World} {g : Nat} {d : Array MCk} (h : Cells w g (fl d)) {i : Nat} (hi : i < d.size) :
    w.cell? ⟨g, i * 3, none⟩ = some (.int .i64 d[i]!.hour) ∧ w.cell? ⟨g, i * 3 + 1, none⟩ = some (.int .i64 d[i]!.volt) ∧ w.cell? ⟨g, i * 3 + 2, none⟩ = some (.bool d[i]!.passed) := by
  have hg : ∀ j v, (MCk.cs d[i]!)[j]? = some v → w.cell? ⟨g, i * 3 + j, none⟩ = some v := fun j v hv => h.2.1 _ _ (flat_get MCk.cs 3 (fun _ => rfl) d.toList i d[i]! (getB hi) j v hv)
  exact ⟨hg 0 _ rfl, hg 1 _ rfl, hg 2 _ rfl⟩
theorem set3 {α : Type} (a b c : α) (t : List α) (i : Nat) (v : α) : (a :: b :: c :: t).set (i + 3) v = a :: b :: c :: t.set i v := rfl
theorem flat_set3 (x : MCk) : ∀ (l : List MCk) (m : Nat), m < l.length → (l.set m x).flatMap MCk.cs = (((l.flatMap MCk.cs).set (m * 3) (.int .i64 x.hour)).set (m * 3 + 1) (.int .i64 x.volt)).set (m * 3 + 2) (.bool x.passed)
  | [], m, h => by simp at h
  | y :: l, 0, _ => by simp
  | y :: l, m + 1, h => by
    have ih := flat_set3 x l m (by simpa using h)
    simp only [List.set_cons_succ, List.flatMap_cons]
    rw [ih]
    have e1 : (m + 1) * 3 = m * 3 + 3 := by omega
    have e2 : m * 3 + 3 + 1 = m * 3 + 1 + 3 := by omega
    have e3 : m * 3 + 3 + 2 = m * 3 + 2 + 3 := by omega
    rw [e1, e2, e3]
    simp only [List.cons_append, List.nil_append, set3]
theorem fl_set {d : Array MCk} {i : Nat} (x : MCk) (hi : i < d.size) : (((fl d).set (i * 3) (.int .i64 x.hour)).set (i * 3 + 1) (.int .i64 x.volt)).set (i * 3 + 2) (.bool x.passed) = fl (d.setIfInBounds i x) := by
  unfold fl
  rw [← flat_set3 x d.toList i (by simpa using hi)]
  simp
theorem fl_swp {d : Array MCk} {i j : Nat} (hi : i < d.size) (hj : j < d.size) : fl ((d.setIfInBounds i d[j]!).setIfInBounds j d[i]!) = fl (swp d i j) := rfl

/- the hours, as a function of the place -/
def hr (d : Array MCk) (k : Nat) : Int := d[k]!.hour
theorem sortedIn_iff {a b : Nat} {d : Array MCk} : SortedIn ltH a b d ↔ ∀ i j, a ≤ i → i < j → j < b → hr d i ≤ hr d j := by
  unfold SortedIn hr ltH
  constructor
  · intro h i j h1 h2 h3; have := h i j h1 h2 h3; simpa using this
  · intro h i j h1 h2 h3; have := h i j h1 h2 h3; simpa using this
def Same (d d' : Array MCk) (f : Nat → Nat) : Prop := d'.size = d.size ∧ ∀ k, d'[k]! = d[f k]!
theorem swp_at {d : Array MCk} {i j : Nat} (hi : i < d.size) (hj : j < d.size) : Same d (swp d i j) (fun k => if k = j then i else if k = i then j else k) := by
  refine ⟨swp_size d i j, fun k => ?_⟩
  rw [swp_get d hi hj]
  dsimp only
  split
  · rfl
  · split <;> rfl
/-- blocks [a, a + n) and [b, b + n) exchanged -/
def swF (a b n k : Nat) : Nat := if a ≤ k ∧ k < a + n then b + (k - a) else if b ≤ k ∧ k < b + n then a + (k - b) else k
/-- [a, m) and [m, b) exchanged -/
def rotF (a m b k : Nat) : Nat := if k < a then k else if k < a + (b - m) then m + (k - a) else if k < b then a + (k - (a + (b - m))) else k
theorem Same.refl (d : Array MCk) : Same d d (fun k => k) := ⟨rfl, fun _ => rfl⟩
theorem Same.trans {d d' d'' : Array MCk} {f g : Nat → Nat} (h : Same d d' f) (h' : Same d' d'' g) : Same d d'' (fun k => f (g k)) := ⟨h'.1.trans h.1, fun k => (h'.2 k).trans (h.2 _)⟩
theorem Same.to {d d' : Array MCk} {f g : Nat → Nat} (h : Same d d' f) (hfg : ∀ k, f k = g k) : Same d d' g := ⟨h.1, fun k => by rw [h.2, hfg]⟩
theorem Same.hr {d d' : Array MCk} {f : Nat → Nat} (h : Same d d' f) (k : Nat) : hr d' k = hr d (f k) := by unfold Ytndcmmghgljinaa.hr; rw [h.2]
/-- one more pair of swapRange -/
theorem sw_step {d d1 : Array MCk} {a b n i : Nat} (h : Same d d1 (swF a b i)) (hi : i < n) (hab : a + n ≤ b ∨ b + n ≤ a) (ha : a + n ≤ d.size) (hb : b + n ≤ d.size) : Same d (swp d1 (a + i) (b + i)) (swF a b (i + 1)) := by
  have h2 := swp_at (d := d1) (i := a + i) (j := b + i) (by rw [h.1]; omega) (by rw [h.1]; omega)
  refine (h.trans h2).to fun k => ?_
  unfold swF
  repeat' split
  all_goals omega
theorem rot_left {a m b i j : Nat} (hij : j < i) (h1 : i ≤ m) (k : Nat) : swF (m - i) m j (rotF (m - (i - j)) m (m + j) k) = rotF (m - i) m (m + j) k := by
  unfold swF rotF
  repeat' split
  all_goals omega
theorem rot_right {m i j : Nat} (hij : i < j) (h1 : i ≤ m) (k : Nat) : swF (m - i) (m + j - i) i (rotF (m - i) m (m + (j - i)) k) = rotF (m - i) m (m + j) k := by
  unfold swF rotF
  repeat' split
  all_goals omega
theorem rot_end {m i : Nat} (h1 : i ≤ m) (k : Nat) : swF (m - i) m i k = rotF (m - i) m (m + i) k := by
  unfold swF rotF
  repeat' split
  all_goals omega
theorem rot_none {a m b : Nat} (h : a = m ∨ m = b) (h1 : a ≤ m) (h2 : m ≤ b) (k : Nat) : rotF a m b k = k := by
  unfold rotF
  repeat' split
  all_goals omega

/- the merge -/
theorem hr_le_trans {a b c : Int} (h : a ≤ b) (h' : b ≤ c) : a ≤ c := by omega
/-- what the search finds: start, between lo and hi -/
structure Split (d : Array MCk) (a m b mid start : Nat) : Prop where
  am : a < m
  mb : m < b
  md : mid = (a + b) / 2
  lo : a ≤ start
  le : start ≤ m
  sm : start ≤ mid
  ee : mid + m - start ≤ b
  left : a < start → mid + m - start < b → hr d (start - 1) ≤ hr d (mid + m - start)
  right : start < m → m < mid + m - start → hr d (mid + m - start - 1) ≤ hr d start
theorem Split.halves {d d1 : Array MCk} {a m b mid start : Nat} (h : Split d a m b mid start) (hs1 : SortedIn ltH a m d) (hs2 : SortedIn ltH m b d) (hr1 : Same d d1 (rotF start m (mid + m - start))) :
    SortedIn ltH a start d1 ∧ SortedIn ltH start mid d1 ∧ SortedIn ltH mid (mid + m - start) d1 ∧ SortedIn ltH (mid + m - start) b d1 ∧ (∀ i j, a ≤ i → i < mid → mid ≤ j → j < b → hr d1 i ≤ hr d1 j) := by
  rw [sortedIn_iff] at hs1 hs2
  obtain ⟨h1, h2, h3, h4, h5, h6, h7, h8, h9⟩ := h
  have e : ∀ k, hr d1 k = hr d (rotF start m (mid + m - start) k) := hr1.hr
  have f1 : ∀ k, k < start → rotF start m (mid + m - start) k = k := by intro k hk; unfold rotF; (repeat' split) <;> omega
  have f2 : ∀ k, start ≤ k → k < mid → rotF start m (mid + m - start) k = m + (k - start) := by intro k hk hk2; unfold rotF; (repeat' split) <;> omega
  have f3 : ∀ k, mid ≤ k → k < mid + m - start → rotF start m (mid + m - start) k = start + (k - mid) := by intro k hk hk2; unfold rotF; (repeat' split) <;> omega
  have f4 : ∀ k, mid + m - start ≤ k → rotF start m (mid + m - start) k = k := by intro k hk; unfold rotF; (repeat' split) <;> omega
  refine ⟨?_, ?_, ?_, ?_, ?_⟩
  · rw [sortedIn_iff]; intro i j hi hij hj; rw [e, e, f1 i (by omega), f1 j (by omega)]; exact hs1 i j hi hij (by omega)
  · rw [sortedIn_iff]; intro i j hi hij hj; rw [e, e, f2 i (by omega) (by omega), f2 j (by omega) (by omega)]; exact hs2 _ _ (by omega) (by omega) (by omega)
  · rw [sortedIn_iff]; intro i j hi hij hj; rw [e, e, f3 i (by omega) (by omega), f3 j (by omega) (by omega)]; exact hs1 _ _ (by omega) (by omega) (by omega)
  · rw [sortedIn_iff]; intro i j hi hij hj; rw [e, e, f4 i (by omega), f4 j (by omega)]; exact hs2 _ _ (by omega) (by omega) (by omega)
  · intro i j hi him hj hjb
    have le1 : ∀ x y, a ≤ x → x ≤ y → y < m → hr d x ≤ hr d y := by
      intro x y hx hxy hy
      by_cases hxy' : x = y
      · rw [hxy']; exact Int.le_refl _
      · exact hs1 x y hx (by omega) hy
    have le2 : ∀ x y, m ≤ x → x ≤ y → y < b → hr d x ≤ hr d y := by
      intro x y hx hxy hy
      by_cases hxy' : x = y
      · rw [hxy']; exact Int.le_refl _
      · exact hs2 x y hx (by omega) hy
    rw [e, e]
    by_cases hi' : i < start
    · rw [f1 i hi']
      by_cases hj' : j < mid + m - start
      · rw [f3 j hj hj']; exact le1 _ _ hi (by omega) (by omega)
      · rw [f4 j (by omega)]
        have := h8 (by omega) (by omega)
        have a1 := le1 i (start - 1) hi (by omega) (by omega)
        have a2 := le2 (mid + m - start) j (by omega) (by omega) hjb
        omega
    · rw [f2 i (by omega) him]
      by_cases hj' : j < mid + m - start
      · rw [f3 j hj hj']
        have := h9 (by omega) (by omega)
        have a1 := le2 (m + (i - start)) (mid + m - start - 1) (by omega) (by omega) (by omega)
        have a2 := le1 start (start + (j - mid)) (by omega) (by omega) (by omega)
        omega
      · rw [f4 j (by omega)]; exact le2 _ _ (by omega) (by omega) hjb
theorem hr_perm {a b : Nat} {d d' : Array MCk} (hb : b ≤ d.size) (h : PermIn a b d d') {p : Int → Prop} (hp : ∀ i, a ≤ i → i < b → p (hr d i)) : ∀ i, a ≤ i → i < b → p (hr d' i) :=
  permIn_all d d' a b (fun c => p c.hour) hb h hp
theorem hr_out {a b : Nat} {d d' : Array MCk} (h : PermIn a b d d') {i : Nat} (hi : i < a ∨ b ≤ i) : hr d' i = hr d i := by unfold hr; rw [h.2.1 i hi]
/-- two halves, each sorted, the left one below the right one -/
theorem sorted_two {a mid b : Nat} {d1 d2 d3 : Array MCk} (hb : b ≤ d1.size) (ham : a ≤ mid) (hmb : mid ≤ b) (hcross : ∀ i j, a ≤ i → i < mid → mid ≤ j → j < b → hr d1 i ≤ hr d1 j)
    (p1 : PermIn a mid d1 d2) (s1 : SortedIn ltH a mid d2) (p2 : PermIn mid b d2 d3) (s2 : SortedIn ltH mid b d3) : SortedIn ltH a b d3 := by
  rw [sortedIn_iff] at *
  have hb2 : b ≤ d2.size := by rw [p1.1]; exact hb
  have c2 : ∀ i j, a ≤ i → i < mid → mid ≤ j → j < b → hr d2 i ≤ hr d2 j := by
    intro i j h1 h2 h3 h4
    rw [hr_out p1 (.inr h3)]
    exact hr_perm (by omega) p1 (p := fun x => x ≤ hr d1 j) (fun i' h1' h2' => hcross i' j h1' h2' h3 h4) i h1 h2
  have c3 : ∀ i j, a ≤ i → i < mid → mid ≤ j → j < b → hr d3 i ≤ hr d3 j := by
    intro i j h1 h2 h3 h4
    rw [hr_out p2 (.inl h2)]
    exact hr_perm hb2 p2 (p := fun x => hr d2 i ≤ x) (fun j' h1' h2' => c2 i j' h1 h2 h1' h2') j h3 h4
  intro i j h1 h2 h3
  by_cases hj : j < mid
  · rw [hr_out p2 (.inl (by omega)), hr_out p2 (.inl hj)]; exact s1 i j h1 h2 hj
  · by_cases hi : i < mid
    · exact c3 i j h1 hi (by omega) h3
    · exact s2 i j (by omega) h2 h3
/-- one element ahead of a sorted block: put behind those that are less -/
theorem merge_one_l {d d1 : Array MCk} {a b i : Nat} (hai : a < i) (hib : i ≤ b) (hs : SortedIn ltH (a + 1) b d) (hl : a + 1 < i → hr d (i - 1) ≤ hr d a) (hg : i < b → hr d a ≤ hr d i)
    (h : Same d d1 (fun k => if a ≤ k ∧ k + 1 < i then k + 1 else if k + 1 = i then a else k)) : SortedIn ltH a b d1 := by
  rw [sortedIn_iff] at *
  have e := h.hr
  have le : ∀ x y, a + 1 ≤ x → x ≤ y → y < b → hr d x ≤ hr d y := by
    intro x y hx hxy hy
    by_cases hxy' : x = y
    · rw [hxy']; exact Int.le_refl _
    · exact hs x y hx (by omega) hy
  intro x y hx hxy hy
  rw [e, e]
  (try dsimp only)
  by_cases hx1 : x + 1 < i
  · rw [if_pos ⟨hx, hx1⟩]
    by_cases hy1 : y + 1 < i
    · rw [if_pos ⟨by omega, hy1⟩]; exact le _ _ (by omega) (by omega) (by omega)
    · rw [if_neg (by omega)]
      by_cases hy2 : y + 1 = i
      · rw [if_pos hy2]; have := hl (by omega); have := le (x + 1) (i - 1) (by omega) (by omega) (by omega); omega
      · rw [if_neg hy2]; exact le _ _ (by omega) (by omega) hy
  · rw [if_neg (by omega)]
    by_cases hx2 : x + 1 = i
    · rw [if_pos hx2, if_neg (by omega), if_neg (by omega)]
      have := hg (by omega); have := le i y (by omega) (by omega) hy; omega
    · rw [if_neg hx2, if_neg (by omega), if_neg (by omega)]; exact le _ _ (by omega) (by omega) hy
/-- one element behind a sorted block: put ahead of those that are greater -/
theorem merge_one_r {d d1 : Array MCk} {a m i : Nat} (hai : a ≤ i) (him : i ≤ m) (hs : SortedIn ltH a m d) (hl : a < i → hr d (i - 1) ≤ hr d m) (hg : i < m → hr d m ≤ hr d i)
    (h : Same d d1 (fun k => if k = i then m else if i < k ∧ k ≤ m then k - 1 else k)) : SortedIn ltH a (m + 1) d1 := by
  rw [sortedIn_iff] at *
  have e := h.hr
  have le : ∀ x y, a ≤ x → x ≤ y → y < m → hr d x ≤ hr d y := by
    intro x y hx hxy hy
    by_cases hxy' : x = y
    · rw [hxy']; exact Int.le_refl _
    · exact hs x y hx (by omega) hy
  intro x y hx hxy hy
  rw [e, e]
  (try dsimp only)
  by_cases hy1 : y = i
  · rw [if_pos hy1, if_neg (by omega), if_neg (by omega)]
    have := hl (by omega); have := le x (i - 1) hx (by omega) (by omega); omega
  · rw [if_neg hy1]
    by_cases hy2 : i < y ∧ y ≤ m
    · rw [if_pos hy2]
      by_cases hx1 : x = i
      · rw [if_pos hx1]; have := hg (by omega); have := le i (y - 1) (by omega) (by omega) (by omega); omega
      · rw [if_neg hx1]
        by_cases hx2 : i < x ∧ x ≤ m
        · rw [if_pos hx2]; exact le _ _ (by omega) (by omega) (by omega)
        · rw [if_neg hx2]; exact le _ _ hx (by omega) (by omega)
    · rw [if_neg hy2, if_neg (by omega), if_neg (by omega)]; exact le _ _ hx (by omega) (by omega)
theorem shl_step {d d1 : Array MCk} {a k : Nat} (h : Same d d1 (fun x => if a ≤ x ∧ x < k then x + 1 else if x = k then a else x)) (hak : a ≤ k) (hk : k + 1 < d.size) : Same d (swp d1 k (k + 1)) (fun x => if a ≤ x ∧ x < k + 1 then x + 1 else if x = k + 1 then a else x) := by
  have h2 := swp_at (d := d1) (i := k) (j := k + 1) (by rw [h.1]; omega) (by rw [h.1]; omega)
  refine (h.trans h2).to fun x => ?_
  (try dsimp only)
  repeat' split
  all_goals omega
theorem shr_step {d d1 : Array MCk} {m k : Nat} (h : Same d d1 (fun x => if x = k + 1 then m else if k + 1 < x ∧ x ≤ m then x - 1 else x)) (hkm : k + 1 ≤ m) (hm : m < d.size) : Same d (swp d1 (k + 1) k) (fun x => if x = k then m else if k < x ∧ x ≤ m then x - 1 else x) := by
  have h2 := swp_at (d := d1) (i := k + 1) (j := k) (by rw [h.1]; omega) (by rw [h.1]; omega)
  refine (h.trans h2).to fun x => ?_
  (try dsimp only)
  repeat' split
  all_goals omega
end Go.Proofs.Ytndcmmghgljinaa
