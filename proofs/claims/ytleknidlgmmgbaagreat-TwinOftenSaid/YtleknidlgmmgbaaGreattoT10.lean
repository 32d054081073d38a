/- Entries counted, each once: TwinOften. -/
import Derived.Test.YtleknidlgmmgbaaGreattoT7
set_option linter.all false
namespace Go.Proofs.YtleknidlgmmgbaaGreat

section
variable {α : Type} [DecidableEq α]
theorem insL_count {lt : α → α → Bool} {p : α → Bool} {x : α} : ∀ {l : List α}, (insL lt x l).countP p = (if p x = true then 1 else 0) + l.countP p
  | [] => by simp [insL, List.countP_cons]
  | y :: l => by
    unfold insL
    split
    · rw [List.countP_cons, insL_count, List.countP_cons]; omega
    · rw [List.countP_cons]; omega
theorem foldS_mem {lt : α → α → Bool} {x : α} : ∀ (l out : List α), x ∈ l.foldl (fun out x => if x ∈ out then out else insL lt x out) out ↔ x ∈ out ∨ x ∈ l
  | [], out => by simp
  | y :: l, out => by
    rw [List.foldl_cons, foldS_mem l]
    by_cases h : y ∈ out
    · rw [if_pos h, List.mem_cons]
      constructor
      · rintro (h1 | h1)
        · exact .inl h1
        · exact .inr (.inr h1)
      · rintro (h1 | h1 | h1)
        · exact .inl h1
        · exact .inl (h1 ▸ h)
        · exact .inr h1
    · rw [if_neg h, insL_mem, List.mem_cons]
      constructor
      · rintro ((h1 | h1) | h1)
        · exact .inr (.inl h1)
        · exact .inl h1
        · exact .inr (.inr h1)
      · rintro (h1 | h1 | h1)
        · exact .inl (.inr h1)
        · exact .inl (.inl h1)
        · exact .inr h1
theorem setL_mem0 {lt : α → α → Bool} {l : List α} {x : α} : x ∈ setL lt l ↔ x ∈ l := by unfold setL; rw [foldS_mem]; simp
theorem setL_snoc {lt : α → α → Bool} {l : List α} {x : α} : setL lt (l ++ [x]) = if x ∈ setL lt l then setL lt l else insL lt x (setL lt l) := by unfold setL; rw [List.foldl_append]; rfl
end
/-- how many of the first entries are about a unit, each once -/
def fcU (l : List Ent) (u : Unt) : Nat → Nat
  | 0 => 0
  | i + 1 => if l.getD i default ∉ l.take i ∧ (l.getD i default).u = u then fcU l u i + 1 else fcU l u i
theorem getD_E {l : List Ent} {i : Nat} (h : i < l.length) : l.getD i default = l[i] := by rw [List.getD_eq_getElem?_getD, List.getElem?_eq_getElem h]; rfl
theorem fc_yes {l : List Ent} {u : Unt} {i : Nat} (h : i < l.length) {z : Ent} (hz : l[i] = z) (h1 : z ∉ l.take i) (h2 : z.u = u) : fcU l u (i + 1) = fcU l u i + 1 := by
  show (if _ then _ else _) = _
  rw [getD_E h, hz, if_pos ⟨h1, h2⟩]
theorem fc_no {l : List Ent} {u : Unt} {i : Nat} (h : i < l.length) {z : Ent} (hz : l[i] = z) (h1 : z ∈ l.take i ∨ ¬ z.u = u) : fcU l u (i + 1) = fcU l u i := by
  show (if _ then _ else _) = _
  rw [getD_E h, hz, if_neg (fun h3 => by rcases h1 with g | g; exact h3.1 g; exact g h3.2)]
theorem fc_le (l : List Ent) (u : Unt) : ∀ i, fcU l u i ≤ i
  | 0 => Nat.le_refl _
  | i + 1 => by
    have := fc_le l u i
    unfold fcU
    split <;> omega
theorem fc_eq {l : List Ent} {u : Unt} : ∀ {i : Nat}, i ≤ l.length → (setL soonE (l.take i)).countP (fun y => decide (y.u = u)) = fcU l u i
  | 0, _ => by simp [setL, fcU]
  | i + 1, h => by
    have ih := fc_eq (l := l) (u := u) (i := i) (by omega)
    have h' : i < l.length := by omega
    rw [List.take_succ_eq_append_getElem h', setL_snoc]
    by_cases h1 : l[i] ∈ l.take i
    · rw [if_pos (setL_mem0.2 h1), ih, fc_no h' rfl (.inl h1)]
    · rw [if_neg (fun g => h1 (setL_mem0.1 g)), insL_count, ih]
      by_cases h2 : l[i].u = u
      · rw [fc_yes h' rfl h1 h2, if_pos (by simpa using h2)]; omega
      · rw [fc_no h' rfl (.inr h2), if_neg (by simpa using h2)]; omega
theorem often_fc {l : List Ent} {d d' : Int} {m m' : Nat} (hd : d ≤ d') (hm : m' ≤ m) {u : Unt} (h : u ∈ susS l d m) : u ∈ susS l d' m' ∧ m ≤ fcU l u l.length := by
  have h1 := law_often hd hm h
  refine ⟨h1.1, ?_⟩
  rw [← fc_eq (Nat.le_refl _), List.take_length]
  exact h1.2

end Go.Proofs.YtleknidlgmmgbaaGreat
