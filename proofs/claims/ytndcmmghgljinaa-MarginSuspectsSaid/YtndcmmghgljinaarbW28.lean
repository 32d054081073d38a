/- The reference's Group: plain laws. -/
import Derived.Test.YtndcmmghgljinaarbW18
set_option linter.all false
namespace Go.Proofs.Ytndcmmghgljinaa

open Go.RowKit


def gE1 (k : Kd) (v : Int) : Int := if kdErr k ≠ 0 then kdErr k else if voltOk k v = false then 7 else 0
def gE2 (k : Kd) (l : List Span) (v : Int) : Int := if gE1 k v ≠ 0 then gE1 k v else if 12 < l.length then 3 else 0
/-- the error found ahead of span i -/
def gEU (k : Kd) (l : List Span) (v : Int) : Nat → Int
  | 0 => gE2 k l v
  | i + 1 => if gEU k l v i ≠ 0 then gEU k l v i else spErr (l.getD i Span.zero)
def firErr (l : List Span) : Int := ((l.find? (fun s => spErr s != 0)).map spErr).getD 0
theorem gEU_eq (k : Kd) (l : List Span) (v : Int) : ∀ i, i ≤ l.length → gEU k l v i = if gE2 k l v ≠ 0 then gE2 k l v else firErr (l.take i)
  | 0, _ => by
    show gE2 k l v = _
    by_cases h : gE2 k l v ≠ 0
    · rw [if_pos h]
    · rw [if_neg h]
      have : gE2 k l v = 0 := by simpa using h
      rw [this]; rfl
  | i + 1, hi => by
    have ih := gEU_eq k l v i (by omega)
    show (if gEU k l v i ≠ 0 then gEU k l v i else spErr (l.getD i Span.zero)) = _
    rw [ih, getD_get (show i < l.length by omega)]
    by_cases h : gE2 k l v ≠ 0
    · rw [if_pos h, if_pos h, if_pos h]
    · rw [if_neg h, if_neg h]
      unfold firErr; rw [List.take_succ_eq_append_getElem (show i < l.length by omega), List.find?_append]
      cases hf : (l.take i).find? (fun s => spErr s != 0) with
      | some s =>
        have := List.find?_some hf
        simp at this
        simp [this]
      | none =>
        by_cases he : spErr l[i] = 0
        · simp [List.find?, he]
        · have he' : (spErr l[i] != 0) = true := by simpa using he
          simp [List.find?, he']
theorem grp_gE2 (k : Kd) (l : List Span) (v : Int) : grpErr k l v = if gE2 k l v ≠ 0 then gE2 k l v else firErr l := by
  have e : ∀ o : Option Span, (match o with | some s => spErr s | none => 0) = (o.map spErr).getD 0 := fun o => by cases o <;> rfl
  unfold grpErr gE2 gE1 firErr; rw [← e]
  by_cases h1 : kdErr k ≠ 0
  · simp [h1]
  · by_cases h2 : voltOk k v = false
    · simp [h1, h2]
    · by_cases h3 : 12 < l.length
      · simp [h1, h2, h3]
      · simp [h1, h2, h3]; rfl
theorem gEU_all (k : Kd) (l : List Span) (v : Int) : gEU k l v l.length = grpErr k l v := by
  rw [gEU_eq _ _ _ _ (Nat.le_refl _), grp_gE2, List.take_length]
theorem gEU_keep {k : Kd} {l : List Span} {v : Int} {i : Nat} (h : gEU k l v i ≠ 0) : ∀ d, gEU k l v (i + d) = gEU k l v i
  | 0 => rfl
  | d + 1 => by
    have ih := gEU_keep h d
    show (if gEU k l v (i + d) ≠ 0 then gEU k l v (i + d) else _) = _
    rw [ih, if_pos h]
theorem gEU_stop {k : Kd} {l : List Span} {v : Int} {i : Nat} (hi : i ≤ l.length) (h : gEU k l v i ≠ 0) : grpErr k l v = gEU k l v i := by
  have := gEU_keep h (l.length - i); rw [show i + (l.length - i) = l.length by omega, gEU_all] at this; exact this
theorem gE1_ok {k : Kd} {v : Int} (h : gE1 k v = 0) : kdErr k = 0 ∧ voltOk k v = true := by
  unfold gE1 at h
  split at h
  · rename_i h1; exact absurd h h1
  · split at h
    · cases h
    · rename_i h1 h2
      exact ⟨by simpa using h1, by simpa using h2⟩
theorem grp_ok {k : Kd} {l : List Span} {v : Int} (h : grpErr k l v = 0) : kdErr k = 0 ∧ voltOk k v = true ∧ l.length ≤ 12 ∧ ∀ j (hj : j < l.length), spErr l[j] = 0 := by
  have h0 := h; rw [grp_gE2] at h
  split at h
  · rename_i h1; exact absurd h h1
  rename_i h1
  have h2 : gE2 k l v = 0 := by simpa using h1
  unfold gE2 at h2
  split at h2
  · rename_i h3; exact absurd h2 h3
  rename_i h3
  split at h2
  · cases h2
  rename_i h4
  obtain ⟨h5, h6⟩ := gE1_ok (by simpa using h3); refine ⟨h5, h6, by omega, fun j hj => ?_⟩
  cases hf : l.find? (fun s => spErr s != 0) with
  | some s =>
    unfold firErr at h; rw [hf] at h; have := List.find?_some hf
    simp at this; exact absurd h this
  | none =>
    rw [List.find?_eq_none] at hf
    simpa using hf l[j] (List.getElem_mem hj)
/-- span i of those after -/
def aftAt (k : Kd) (l : List Span) (v : Int) (p : Bool) (i : Nat) : Span := (aftOf k l v p).getD i Span.zero
theorem aft_len (k : Kd) (l : List Span) (v : Int) (p : Bool) : (aftOf k l v p).length = l.length := by
  unfold aftOf
  split
  · simp
  · split <;> simp
theorem aft_succ {k : Kd} {l : List Span} {v : Int} {p : Bool} {i : Nat} (hi : i < l.length) : (aftOf k l v p).take (i + 1) = (aftOf k l v p).take i ++ [aftAt k l v p i] := by
  have h : i < (aftOf k l v p).length := by rw [aft_len]; exact hi
  unfold aftAt; rw [getD_get h, List.take_succ_eq_append_getElem h]
theorem aft_true {k : Kd} {l : List Span} {v : Int} {i : Nat} (hi : i < l.length) : aftAt k l v true i = agreed k l[i] v true := by
  unfold aftAt; rw [getD_get (by rw [aft_len]; exact hi)]; unfold aftOf
  simp
theorem aft_one {k : Kd} {l : List Span} {v : Int} {i q : Nat} (hi : i < l.length) (hq : q < l.length) (hs : susUp (needed k v) l l.length = [(q : Int)]) : aftAt k l v false i = if q = i then agreed k l[i] v false else l[i] := by
  have e : aftOf k l v false = l.set q (agreed k (l.getD q Span.zero) v false) := by
    unfold aftOf; rw [hs]
    simp
  unfold aftAt; rw [getD_get (by rw [aft_len]; exact hi)]
  simp only [e, List.getElem_set]
  split
  · rename_i h; subst h; rw [getD_get hi]
  · rfl
theorem aft_not {k : Kd} {l : List Span} {v : Int} {i : Nat} (hi : i < l.length) (hs : ¬ (susUp (needed k v) l l.length).length = 1) : aftAt k l v false i = l[i] := by
  have e : aftOf k l v false = l := by
    unfold aftOf
    simp only [Bool.false_eq_true, if_false]
    split
    · rename_i hz; rw [hz] at hs; exact absurd rfl hs
    · rfl
  unfold aftAt; rw [e, getD_get hi]

end Go.Proofs.Ytndcmmghgljinaa
