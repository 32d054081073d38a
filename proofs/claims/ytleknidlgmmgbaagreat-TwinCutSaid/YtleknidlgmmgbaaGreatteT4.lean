/- Plain laws of the two machines: a run cut, the first order that differs, stretches, marks. -/
import Derived.Test.YtleknidlgmmgbaaGreatteT3
set_option linter.all false
namespace Go.Proofs.YtleknidlgmmgbaaGreat

def shiftF (fs : List Flt) (k : Int) : List Flt := (fs.filter fun f => decide (k ≤ f.done)).map fun f => ⟨f.done - k, f.addr, f.mask⟩
theorem hitS_cons (f : Flt) (fs : List Flt) (n : Int) (st : List Int) : hitS (f :: fs) n st = hitS fs n (if f.done = n then st.set f.addr.toNat (xorI (st.getD f.addr.toNat 0) f.mask) else st) := by
  unfold hitS
  by_cases e : f.done = n
  · rw [List.filter_cons_of_pos (by simpa using e), List.foldl_cons, if_pos e]
  · rw [List.filter_cons_of_neg (by simpa using e), if_neg e]
theorem hitS_shift {k j : Int} (hj : 0 ≤ j) : ∀ (fs : List Flt) (st : List Int), hitS (shiftF fs k) j st = hitS fs (k + j) st
  | [], st => rfl
  | f :: fs, st => by
    rw [hitS_cons]
    by_cases e : k ≤ f.done
    · have : shiftF (f :: fs) k = ⟨f.done - k, f.addr, f.mask⟩ :: shiftF fs k := by unfold shiftF; rw [List.filter_cons_of_pos (by simpa using e)]; rfl
      rw [this, hitS_cons, hitS_shift hj fs]
      by_cases e2 : f.done = k + j
      · rw [if_pos (show f.done - k = j by omega), if_pos e2]
      · rw [if_neg (show ¬ f.done - k = j by omega), if_neg e2]
    · have : shiftF (f :: fs) k = shiftF fs k := by unfold shiftF; rw [List.filter_cons_of_neg (by simpa using e)]
      rw [this, hitS_shift hj fs, if_neg (show ¬ f.done = k + j by omega)]
theorem do_shift (fs : List Flt) (k j : Nat) (s : St4) : do12 (shiftF fs k) (j : Int) s = do12 fs ((k + j : Nat) : Int) s := by
  unfold do12 hit4
  rw [hitS_shift (by omega), show ((k + j : Nat) : Int) = (k : Int) + (j : Int) by omega]
theorem after_shift (fs : List Flt) (k : Nat) : ∀ (m j : Nat) (s : St4), after12 (shiftF fs k) j m s = after12 fs (k + j) m s
  | 0, _, _ => rfl
  | m + 1, j, s => by
    show after12 (shiftF fs k) (j + 1) m (do12 (shiftF fs k) j s) = after12 fs (k + j + 1) m (do12 fs ((k + j : Nat) : Int) s)
    rw [do_shift, after_shift fs k m (j + 1)]
    rfl
theorem law_cut (fs : List Flt) (s : St4) {k most : Nat} (h : k ≤ most) : run12 (run12 s fs k) (shiftF fs k) (most - k) = run12 s fs most := by
  unfold run12
  rw [after_shift, Nat.add_zero]
  have := after_add fs (most - k) k 0 s
  rw [show k + (most - k) = most by omega, Nat.zero_add] at this
  exact this.symm
theorem shift_ok {fs : List Flt} (h : FOk fs) {k : Int} (hk : 0 ≤ k) : FOk (shiftF fs k) ∧ (shiftF fs k).length ≤ fs.length := by
  unfold shiftF
  refine ⟨fun f hf => ?_, by rw [List.length_map]; exact List.length_filter_le _ _⟩
  obtain ⟨g, hg, rfl⟩ := List.mem_map.1 hf
  obtain ⟨h1, h2⟩ := List.mem_filter.1 hg
  obtain ⟨a, b, c⟩ := h g h1
  have h2 : k ≤ g.done := by simpa using h2
  exact ⟨⟨by show 0 ≤ g.done - k; omega, by show g.done - k ≤ 1000; omega⟩, b, c⟩
theorem run_nil (s : St4) (n : Nat) : run12 s [] n = run4 n s := after_nil n 0 s
theorem run12_snoc (s : St4) (fs : List Flt) (n : Nat) : run12 s fs (n + 1) = do12 fs n (run12 s fs n) := by
  unfold run12
  rw [after_snoc, Nat.zero_add]

/- the first order after which they differ -/
/- stretches -/
theorem end_gt {every most i : Nat} (he : 1 ≤ every) (hi : i < cntN every most) : i * every < endN every most i ∧ endN every most i ≤ most ∧ endN every most i ≤ i * every + every := by
  unfold cntN at hi
  unfold endN
  have h1 : i * every < most := by
    have h2 : (i + 1) * every ≤ most + every - 1 := Nat.le_trans (Nat.mul_le_mul_right every (show i + 1 ≤ (most + every - 1) / every from hi)) (Nat.div_mul_le_self _ _)
    rw [Nat.add_mul, Nat.one_mul] at h2
    omega
  rw [Nat.add_mul, Nat.one_mul]
  omega
theorem cnt_last {every most : Nat} (he : 1 ≤ every) {i : Nat} (h : cntN every most ≤ i) : most ≤ i * every := by
  unfold cntN at h
  have h1 := Nat.lt_div_mul_add (a := most + every - 1) (b := every) (by omega)
  have h2 := Nat.mul_le_mul_right every h
  omega
theorem cnt_one (most : Nat) : cntN 1 most = most := by unfold cntN; simp

end Go.Proofs.YtleknidlgmmgbaaGreat
