/- Plain laws: the works of QueueShortest. -/
import Derived.Test.YtbjgebbfachgfaacPure13
set_option linter.unusedVariables false
set_option linter.unusedSimpArgs false
set_option linter.unusedSectionVars false
set_option linter.all false
namespace Go.Proofs.Ytbjgebbfachgfaa

def shNames : List ByteArray := [⟨#[97]⟩, ⟨#[98]⟩, ⟨#[99]⟩, ⟨#[100]⟩, ⟨#[101]⟩, ⟨#[102]⟩, ⟨#[103]⟩, ⟨#[104]⟩]
def shName (i : Nat) : ByteArray := shNames.getD i ByteArray.empty
def shJob (i : Nat) (n : Int) : Job := ⟨shName i, 0, n, n⟩
def shJobs (ns : List Int) : List Job := (List.range ns.length).map fun i => shJob i (ns.getD i 0)
def shW (r : Rules) (ns : List Int) : Work := ⟨⟨256, r.load, r.dump, 5000, r.rate⟩, shJobs ns, []⟩

theorem shJobs_len (ns : List Int) : (shJobs ns).length = ns.length := by simp [shJobs]
theorem shJobs_snoc (ns : List Int) (n : Int) : shJobs (ns ++ [n]) = shJobs ns ++ [shJob ns.length n] := by
  unfold shJobs
  rw [List.length_append, List.length_singleton, List.range_succ, List.map_append]
  congr 1
  · refine List.map_congr_left fun i hi => ?_
    rw [List.mem_range] at hi
    simp [List.getD_eq_getElem?_getD, List.getElem?_append_left hi]
  · simp [List.getD_eq_getElem?_getD]
theorem shJobs_claims (ns : List Int) : (shJobs ns).map Job.claim = ns := by
  unfold shJobs
  refine List.ext_getElem (by simp) fun i h1 h2 => ?_
  simp [shJob, List.getD_eq_getElem?_getD, h2]
theorem shJobs_get (ns : List Int) {i : Nat} (hi : i < ns.length) : (shJobs ns).getD i Job.zero = shJob i ns[i] := by
  simp [shJobs, List.getD_eq_getElem?_getD, hi]
theorem names_ok : ∀ i, i < 8 → nameOk (shName i) = true := by decide +kernel
theorem names_ne : ∀ i, i < 8 → ∀ k, k < i → ((shName k).toList == (shName i).toList) = false := by decide +kernel
theorem names_size (i : Nat) : (shName i).size ≤ 1 := by
  unfold shName
  rcases Nat.lt_or_ge i 8 with h | h
  · revert i; decide +kernel
  · rw [List.getD_eq_getElem?_getD, List.getElem?_eq_none (by simpa [shNames] using h)]; decide
theorem shW_rules {r : Rules} (h : r.ok = true) : (⟨256, r.load, r.dump, 5000, r.rate⟩ : Rules).ok = true := by
  obtain ⟨_, h2, h3, _, h5⟩ := (Rules.ok_iff _).1 h
  exact (Rules.ok_iff _).2 ⟨by simp, h2, h3, by simp, h5⟩
theorem shW_err {r : Rules} {ns : List Int} (h : r.ok = true) (hl : ns.length ≤ 8) (hb : ∀ x ∈ ns, 1 ≤ x ∧ x ≤ 256) : (shW r ns).err = 0 := by
  unfold Work.err check shW
  rw [if_neg (by rw [shW_rules h]; decide), if_neg (by rw [shJobs_len]; simp; omega)]
  rw [firstErr_none (f := jobErr (shJobs ns)), firstErr_none (f := fltErr [])]
  · intro i hi; simp at hi
  · intro i hi
    rw [shJobs_len] at hi
    have hx := hb ns[i] (List.getElem_mem hi)
    unfold jobErr
    rw [shJobs_get ns hi]
    have h1 : (shJob i ns[i]).name = shName i := rfl
    rw [h1, names_ok i (by omega), if_neg (by decide), if_neg, if_neg]
    · have : (shJob i ns[i]).numOk = true := (Job.numOk_iff _).2 ⟨by simp [shJob], by simp [shJob]; omega, by simp [shJob]; omega⟩
      rw [this]; decide
    · rw [Bool.not_eq_true, List.any_eq_false]
      intro j hj
      obtain ⟨k, hk, rfl⟩ := List.mem_iff_getElem.1 hj
      rw [List.length_take, shJobs_len] at hk
      have hk' : k < ns.length := by omega
      have e : ((shJobs ns).take i)[k]'(by rw [List.length_take, shJobs_len]; exact hk) = shJob k ns[k] := by
        rw [List.getElem_take]; simp [shJobs, hk', List.getD_eq_getElem?_getD]
      rw [e]
      have := names_ne i (by omega) k (by omega)
      show ¬ ((shName k).toList == (shName i).toList) = true
      rw [this]; decide
theorem shW_short {r : Rules} {ns : List Int} (h : r.ok = true) (hl : ns.length ≤ 8) (hb : ∀ x ∈ ns, 1 ≤ x ∧ x ≤ 256) : Short (shW r ns) := by
  refine ⟨shW_rules h, rfl, rfl, rfl, by show (shJobs ns).length ≤ 8; rw [shJobs_len]; exact hl, fun i hi => ?_⟩
  have hi' : i < ns.length := by have : i < (shJobs ns).length := hi; rwa [shJobs_len] at this
  have e : (shW r ns).job i = shJob i ns[i] := by unfold Work.job shW; exact shJobs_get ns hi'
  rw [e]
  have hx := hb ns[i] (List.getElem_mem hi')
  exact ⟨rfl, rfl, hx.1, hx.2⟩
theorem cost_step {load e a : Int} {L : List Int} {i : Nat} (hi : i < L.length) (h : a + cost load e (L.drop i) = cost load 0 L) : (a + (e + load + L[i])) + cost load (e + load + L[i]) (L.drop (i + 1)) = cost load 0 L := by
  rw [List.drop_eq_getElem_cons hi] at h
  simp only [cost] at h
  omega
theorem perm_put {L ns : List Int} {n : Int} (h : L.Perm ns) (k : Nat) : (L.take k ++ [n] ++ L.drop k).Perm (ns ++ [n]) := by
  have h1 : (L.take k ++ [n] ++ L.drop k).Perm (n :: (L.take k ++ L.drop k)) := by
    rw [List.append_assoc]
    exact List.perm_middle
  rw [List.take_append_drop] at h1
  refine h1.trans ?_
  refine (List.Perm.cons n h).trans ?_
  exact (List.perm_append_singleton n ns).symm

end Go.Proofs.Ytbjgebbfachgfaa
