/- What Suspects answers. -/
import Derived.Test.YtleknidlgmmgbaaGreatteW46
import Derived.Test.YtleknidlgmmgbaaGreatteW43
set_option linter.all false
namespace Go.Proofs.YtleknidlgmmgbaaGreat

open Go.RowKit

/-- what Suspects answers -/
def susR (l : List Ent) (days many : Int) : List Unt × Int :=
  if mergeErr [l] ≠ 0 then ([], mergeErr [l]) else if inI days 1 40001 = false ∨ inI many 1 60 = false then ([], 7) else (susS l days many.toNat, 0)
theorem merge_zero {fs : List (List Ent)} (h : mergeErr fs = 0) : NoConf fs.flatten ∧ ∀ f ∈ fs, fileErr f = 0 := by
  unfold mergeErr at h
  split at h
  · cases h
  · split at h
    · rename_i h1; exact absurd h h1
    · rename_i h1
      split at h
      · rename_i h2
        refine ⟨h2, fun f hf => ?_⟩
        have h3 : filesErr fs = 0 := Decidable.not_not.1 h1
        unfold filesErr at h3
        cases hx : fs.find? (fun f => fileErr f != 0) with
        | none => have := List.find?_eq_none.1 hx f hf; simpa using this
        | some y => rw [hx] at h3; have := List.find?_some hx; simp at h3 this; exact absurd h3 this
      · cases h
theorem merge_one {l : List Ent} (h : mergeErr [l] = 0) : mergeR [l] = (mergeS l, 0) ∧ NoConf l ∧ l.length ≤ 60 ∧ ∀ x ∈ l, entErr x = 0 := by
  obtain ⟨h1, h2⟩ := merge_zero h
  have e : [l].flatten = l := by simp
  rw [e] at h1
  refine ⟨?_, h1, file_all (h2 l (by simp))⟩
  unfold mergeR; rw [h, if_neg (by decide), e]
theorem sus_bad {l : List Ent} {days many e : Int} (h : mergeErr [l] = e) (he : e ≠ 0) : susR l days many = ([], e) := by unfold susR; rw [h, if_pos he]
theorem sus_bad2 {l : List Ent} {days many : Int} (h : mergeErr [l] = 0) (he : inI days 1 40001 = false ∨ inI many 1 60 = false) : susR l days many = ([], 7) := by unfold susR; rw [h, if_neg (by decide), if_pos he]
theorem sus_ok {l : List Ent} {days : Int} {many : Nat} (h : mergeErr [l] = 0) (h1 : inI days 1 40001 = true) (h2 : inI (many : Int) 1 60 = true) : susR l days many = (susS l days many, 0) := by
  unfold susR; rw [h, if_neg (by decide), if_neg (by simp [h1, h2]), Int.toNat_natCast]
/-- the units that the program collects, sorted and each once -/
theorem units_set {l : List Ent} {days : Int} {many : Nat} (hc : NoConf l) (hm : 1 ≤ many) : setL uLess (pU (mergeS l) days many (mergeS l).length) = susS l days many := by
  unfold susS
  refine setL_same totU (fun _ _ => trivial) (fun u => ?_)
  rw [units_mem hc hm u]
  exact (setL_ok totU (fun _ _ => trivial)).2 u
theorem sorted_units {l : List Ent} {days : Int} {many : Nat} (hc : NoConf l) (hm : 1 ≤ many) {m : List Unt} (hp : m.Perm (pU (mergeS l) days many (mergeS l).length)) (hs : m.Pairwise (fun x y => uLess y x = false)) : compL m = susS l days many := by
  rw [comp_set totU (fun _ _ => trivial) hs (fun x => hp.mem_iff.symm), units_set hc hm]

end Go.Proofs.YtleknidlgmmgbaaGreat
