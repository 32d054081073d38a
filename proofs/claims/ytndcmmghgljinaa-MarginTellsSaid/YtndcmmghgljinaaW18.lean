/- Group: plain laws. -/
import Derived.Test.YtndcmmghgljinaaW15
set_option linter.all false
namespace Go.Proofs.Ytndcmmghgljinaa
open Go.RowKit


def susUp (need : Int) (l : List Span) : Nat → List Int
  | 0 => []
  | i + 1 => if (l.getD i Span.zero).lo < need then susUp need l i ++ [(i : Int)] else susUp need l i
/-- the first span in which no valve is -/
def badUp (l : List Span) (p : Span → Bool) (i : Nat) : Bool := (l.take i).any p
def spErr (s : Span) : Int := if inb s.lo 0 1000000 = false ∨ inb s.hi 0 1000000 = false then 7 else if s.hi < s.lo then 2 else 0
def grpErr (k : Kd) (l : List Span) (v : Int) : Int :=
  if kdErr k ≠ 0 then kdErr k else if voltOk k v = false then 7 else if 12 < l.length then 3
  else match l.find? (fun s => spErr s != 0) with
    | some s => spErr s
    | none => 0
def susOf (k : Kd) (l : List Span) (v : Int) (p : Bool) : List Int := if p then [] else susUp (needed k v) l l.length
def aftOf (k : Kd) (l : List Span) (v : Int) (p : Bool) : List Span :=
  if p then l.map (fun s => agreed k s v true)
  else match susUp (needed k v) l l.length with
    | [i] => l.set i.toNat (agreed k (l.getD i.toNat Span.zero) v false)
    | _ => l
def grpDown (k : Kd) (l : List Span) (v : Int) (p : Bool) : Bool := if p then l.any (fun s => decide (s.hi < needed k v)) else (susUp (needed k v) l l.length).isEmpty
def grpRes (k : Kd) (l : List Span) (v : Int) (p : Bool) : List Span × List Int × Int :=
  if grpErr k l v ≠ 0 then ([], [], grpErr k l v) else if grpDown k l v p = true then ([], [], 9) else (aftOf k l v p, susOf k l v p, 0)
theorem susUp_len (need : Int) (l : List Span) : ∀ i, (susUp need l i).length ≤ i
  | 0 => Nat.le_refl _
  | i + 1 => by have := susUp_len need l i; unfold susUp; split <;> simp <;> omega
theorem susUp_mem {need : Int} {l : List Span} : ∀ {i : Nat} {x : Int}, x ∈ susUp need l i → ∃ j : Nat, j < i ∧ x = j
  | 0, x, h => by cases h
  | i + 1, x, h => by
    unfold susUp at h
    split at h
    · rcases List.mem_append.1 h with h | h
      · obtain ⟨j, h1, h2⟩ := susUp_mem h; exact ⟨j, by omega, h2⟩
      · simp at h; exact ⟨i, by omega, h⟩
    · obtain ⟨j, h1, h2⟩ := susUp_mem h; exact ⟨j, by omega, h2⟩
theorem info_span : (Try.prog.info? 23).map (fun i => (i.zero, i.size, i.bytes)) = some (some (.agg #[.int .i64 0, .int .i64 0]), 2, 16) := by kernel_rfl
theorem info_int : (Try.prog.info? 3).map (fun i => (i.zero, i.size, i.bytes)) = some (some (.int .i64 0), 1, 8) := by kernel_rfl
theorem span_one (x : Span) : ∀ u ∈ x.cs, u.oneCell' = true := by intro u hu; simp [Span.cs] at hu; rcases hu with h | h <;> subst h <;> rfl
theorem int_one (x : Int) : ∀ u ∈ int1 x, u.oneCell' = true := by intro u hu; simp [int1] at hu; subst hu; rfl
/-- the spans after i of them, ahead of what the suspects tell -/
def aftUp (k : Kd) (l : List Span) (v : Int) (p : Bool) (i : Nat) : List Span := (l.take i).map fun s => if p then agreed k s v true else s
theorem aftUp_succ {k : Kd} {l : List Span} {v : Int} {p : Bool} {i : Nat} (hi : i < l.length) : aftUp k l v p (i + 1) = aftUp k l v p i ++ [if p then agreed k l[i] v true else l[i]] := by
  unfold aftUp; rw [List.take_succ_eq_append_getElem hi, List.map_append]; rfl
theorem aftUp_len {k : Kd} {l : List Span} {v : Int} {p : Bool} {i : Nat} : (aftUp k l v p i).length = min i l.length := by unfold aftUp; simp
theorem spErr_in {s : Span} (h : spErr s = 0) : (0 ≤ s.lo ∧ s.lo ≤ 1000000) ∧ (0 ≤ s.hi ∧ s.hi ≤ 1000000) ∧ s.lo ≤ s.hi := by
  unfold spErr at h
  split at h
  · cases h
  · split at h
    · cases h
    · rename_i h1 h2
      simp only [not_or, Bool.not_eq_false, inb_iff] at h1
      exact ⟨h1.1, h1.2, by omega⟩
theorem find_first {l : List Span} {i : Nat} (hi : i < l.length) (h : ∀ j (hj : j < l.length), j < i → spErr l[j] = 0) (he : spErr l[i] ≠ 0) : l.find? (fun s => spErr s != 0) = some l[i] := by
  rw [List.find?_eq_some_iff_getElem]; exact ⟨by simpa using he, i, hi, rfl, fun j hj => by simpa using h j (by omega) hj⟩
theorem find_no {l : List Span} (h : ∀ j (hj : j < l.length), spErr l[j] = 0) : l.find? (fun s => spErr s != 0) = none := by
  rw [List.find?_eq_none]; intro x hx; obtain ⟨j, hj, rfl⟩ := List.mem_iff_getElem.1 hx
  simpa using h j hj
def GrpRes (k : Kd) (l : List Span) (v : Int) (p : Bool) (w : World) (e : Ending) (w' : World) : Prop :=
  ∃ a c a' c', e = .returned (.tuple #[.slice a (grpRes k l v p).1.length c, .slice a' (grpRes k l v p).2.1.length c', .int .i64 (grpRes k l v p).2.2]) ∧ RdSpans w' a (grpRes k l v p).1 ∧ RdInts w' a' (grpRes k l v p).2.1 ∧ Below w.heap.size w w' ∧ (∀ b, a = some b → w.heap.size ≤ b.block) ∧ (∀ b, a' = some b → w.heap.size ≤ b.block)
theorem grp_no {k : Kd} {l : List Span} {v : Int} {p : Bool} {w w' : World} {n : Int} (h : grpRes k l v p = ([], [], n)) (hb : Below w.heap.size w w') : GrpRes k l v p w (.returned (.tuple #[.slice none 0 0, .slice none 0 0, .int .i64 n])) w' :=
  ⟨none, 0, none, 0, by rw [h]; rfl, by rw [h]; exact .inl rfl, by rw [h]; exact .inl rfl, hb, (fun b hb => by cases hb), (fun b hb => by cases hb)⟩

end Go.Proofs.Ytndcmmghgljinaa
