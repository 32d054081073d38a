/- Plain laws for TwinHalf. -/
import Derived.Test.YtleknidlgmmgbaaGreattfT4
set_option linter.all false
namespace Go.Proofs.YtleknidlgmmgbaaGreat

def evT (e0 t : Nat) : Nat := if t < 2 then e0 else 1
def heads (l : List Int) (m : Int) : Int := match l with
  | [] => m
  | x :: _ => if m < 0 ∨ x < m then x else m
def stepL (ev : Nat) (l : List Int) (m : Int) : Int := if ev = 1 then heads l m else m
/-- the least number of the stretches that differ, after so many turns -/
def leastT (s : St4) (fs : List Flt) (e0 mn : Nat) : Nat → Int
  | 0 => -1
  | t + 1 => stepL (evT e0 t) (halfL s fs (evT e0 t) mn (decide (t % 2 = 1))) (leastT s fs e0 mn t)
theorem heads_at {l : List Int} {m n : Int} (hn : 0 ≤ n) (ha : l.Pairwise (fun a b => a < b)) (hl : ∀ x ∈ l, n ≤ x) (hm : m = -1 ∨ n ≤ m) : (heads l m = -1 ∨ n ≤ heads l m) ∧ (n ∈ l → heads l m = n) ∧ (m = n → heads l m = n) := by
  cases l with
  | nil => exact ⟨hm, fun h => (by cases h), fun h => h⟩
  | cons x tl =>
    have hx := hl x (by simp)
    have e : heads (x :: tl) m = if m < 0 ∨ x < m then x else m := rfl
    rw [e]
    refine ⟨?_, fun h => ?_, fun h => ?_⟩
    · split <;> omega
    · have : n = x := by
        rcases List.mem_cons.1 h with h | h
        · exact h
        · have := List.rel_of_pairwise_cons ha h; omega
      split <;> omega
    · split <;> omega
theorem half_asc {s : St4} {fs : List Flt} {ev mn : Nat} {odd : Bool} : (halfL s fs ev mn odd).Pairwise (fun a b => a < b) := halfU_asc
theorem half_ge {s : St4} {fs : List Flt} {mn n : Nat} {odd : Bool} (h : firstN s fs mn = some n) : ∀ x ∈ halfL s fs 1 mn odd, (n : Int) ≤ x := by
  intro x hx
  obtain ⟨i, hi, rfl, _, hd⟩ := halfU_mem.1 hx
  rcases Nat.lt_or_ge i n with g | g
  · rw [(dif_first h).2 i g] at hd; cases hd
  · omega
theorem half_at {s : St4} {fs : List Flt} {mn n : Nat} {odd : Bool} (h : firstN s fs mn = some n) (ho : decide (n % 2 = 1) = odd) : (n : Int) ∈ halfL s fs 1 mn odd :=
  halfU_mem.2 ⟨n, by rw [cnt_one]; exact (first_some h).1, rfl, ho, (dif_first h).1⟩
theorem half_none {s : St4} {fs : List Flt} {mn : Nat} {odd : Bool} (h : firstN s fs mn = none) : halfL s fs 1 mn odd = [] := by
  cases e : halfL s fs 1 mn odd with
  | nil => rfl
  | cons x tl =>
    obtain ⟨i, hi, _, _, hd⟩ := halfU_mem.1 (show x ∈ halfU s fs 1 mn odd (cntN 1 mn) by show x ∈ halfL s fs 1 mn odd; rw [e]; simp)
    rw [cnt_one] at hi
    rw [dif_never h i hi] at hd; cases hd
theorem least_first {s : St4} {fs : List Flt} {e0 mn n : Nat} (h : firstN s fs mn = some n) : leastT s fs e0 mn 4 = n := by
  have st : ∀ (ev : Nat) (odd : Bool) (m : Int), (m = -1 ∨ (n : Int) ≤ m) → (stepL ev (halfL s fs ev mn odd) m = -1 ∨ (n : Int) ≤ stepL ev (halfL s fs ev mn odd) m) := by
    intro ev odd m hm
    unfold stepL
    by_cases he : ev = 1
    · subst he; rw [if_pos rfl]; exact (heads_at (by omega) half_asc (half_ge h) hm).1
    · rw [if_neg he]; exact hm
  have h1 := st (evT e0 0) (decide (0 % 2 = 1)) (-1) (.inl rfl)
  have h2 := st (evT e0 1) (decide (1 % 2 = 1)) _ h1
  have e3 : leastT s fs e0 mn 3 = heads (halfL s fs 1 mn false) (leastT s fs e0 mn 2) := rfl
  have e4 : leastT s fs e0 mn 4 = heads (halfL s fs 1 mn true) (leastT s fs e0 mn 3) := rfl
  have k3 := heads_at (n := n) (by omega) (half_asc (odd := false)) (half_ge h) (show leastT s fs e0 mn 2 = -1 ∨ (n : Int) ≤ leastT s fs e0 mn 2 from h2)
  rw [← e3] at k3
  have k4 := heads_at (n := n) (by omega) (half_asc (odd := true)) (half_ge h) k3.1
  rw [← e4] at k4
  by_cases hp : n % 2 = 1
  · exact k4.2.1 (half_at h (decide_eq_true hp))
  · exact k4.2.2 (k3.2.1 (half_at h (decide_eq_false hp)))
/-- what is in Half's answer -/
theorem half_in {s : St4} {fs : List Flt} {ev mn : Nat} {odd : Bool} {x : Int} (he : 1 ≤ ev) (hf : FOk fs) (h : x ∈ halfL s fs ev mn odd) : ∃ i : Nat, x = i ∧ decide (i % 2 = 1) = odd ∧ i * ev < mn ∧ i < cntN ev mn ∧ ∃ f ∈ fs, f.done.tdiv ev = x := by
  obtain ⟨i, hi, rfl, ho, hd⟩ := halfU_mem.1 h
  obtain ⟨g1, g2, g3⟩ := end_gt he hi
  refine ⟨i, rfl, ho, by omega, hi, ?_⟩
  obtain ⟨f, hm, d1, d2⟩ := dif_hit he hi hd
  refine ⟨f, hm, ?_⟩
  have h0 := (hf f hm).1.1
  obtain ⟨d, hd'⟩ := Int.eq_ofNat_of_zero_le h0
  rw [hd'] at d1 d2 ⊢
  rw [← Int.ofNat_tdiv]
  congr 1
  refine Nat.div_eq_of_lt_le ?_ ?_
  · exact_mod_cast d1
  · have : ((d : Nat) : Int) < ((i * ev + ev : Nat) : Int) := by push_cast; exact d2
    rw [Nat.succ_mul]; exact_mod_cast this
theorem half_lt {s : St4} {fs : List Flt} {ev mn : Nat} {odd : Bool} {i j : Nat} (hj : j < i) (hi : i < (halfL s fs ev mn odd).length) : (halfL s fs ev mn odd)[j] < (halfL s fs ev mn odd)[i] :=
  List.pairwise_iff_getElem.1 half_asc j i (by omega) hi hj
def hitB (fs : List Flt) (ev : Nat) (x : Int) (k : Nat) : Bool := (fs.take k).any fun f => decide (f.done.tdiv ev = x)
theorem hitB_next {fs : List Flt} {ev : Nat} {x : Int} {k : Nat} (hk : k < fs.length) {f : Flt} (hf : fs[k] = f) : hitB fs ev x (k + 1) = (hitB fs ev x k || decide (f.done.tdiv ev = x)) := by
  unfold hitB; rw [List.take_succ_eq_append_getElem hk, hf, List.any_append]; simp
theorem hitB_all {fs : List Flt} {ev : Nat} {x : Int} (h : ∃ f ∈ fs, f.done.tdiv ev = x) : hitB fs ev x fs.length = true := by
  unfold hitB; rw [List.take_length, List.any_eq_true]
  obtain ⟨f, hm, e⟩ := h
  exact ⟨f, hm, decide_eq_true e⟩
theorem chk4_bd (s : St4) : 0 ≤ (chk4 s).2.2 ∧ (chk4 s).2.2 ≤ 7 := by
  unfold chk4
  repeat' split
  all_goals (constructor <;> simp)
theorem flErr_bd (fs : List Flt) : 0 ≤ flErr fs ∧ flErr fs ≤ 7 := by
  unfold flErr
  cases h : fs.find? (fun f => fErr f != 0) with
  | none => simp
  | some f =>
    simp only [Option.map_some, Option.getD_some]
    unfold fErr
    split
    · decide
    · split <;> decide
theorem ask12_bd (s : St4) (fs : List Flt) (most : Int) : 0 ≤ askErr12 s fs most ∧ askErr12 s fs most ≤ 7 := by
  have h1 := chk4_bd s
  have h2 := flErr_bd fs
  unfold askErr12
  split
  · exact h1
  · split
    · decide
    · split
      · exact h2
      · split <;> decide
theorem tdiv_bd {a : Int} {b : Nat} (h : 0 ≤ a) : 0 ≤ a.tdiv b ∧ a.tdiv b ≤ a := by
  obtain ⟨n, rfl⟩ := Int.eq_ofNat_of_zero_le h
  rw [← Int.ofNat_tdiv]
  exact ⟨Int.natCast_nonneg _, Int.ofNat_le.2 (Nat.div_le_self n b)⟩
theorem heads_yes {l : List Int} {m x : Int} (hl : 0 < l.length) (hx : l[0] = x) (h : m < 0 ∨ x < m) : heads l m = x := by
  cases l with
  | nil => exact absurd hl (by simp)
  | cons y tl => obtain rfl : y = x := hx; show (if _ then _ else _) = _; rw [if_pos h]
theorem heads_no {l : List Int} {m x : Int} (hl : 0 < l.length) (hx : l[0] = x) (h : ¬ (m < 0 ∨ x < m)) : heads l m = m := by
  cases l with
  | nil => exact absurd hl (by simp)
  | cons y tl => obtain rfl : y = x := hx; show (if _ then _ else _) = _; rw [if_neg h]
theorem heads_nil {l : List Int} {m : Int} (hl : ¬ 0 < l.length) : heads l m = m := by
  cases l with
  | nil => rfl
  | cons y tl => exact absurd (by simp) hl
def B2 (e y0 : Int) : Bool := decide (¬ (e = 0 ∨ e = 9)) || decide (y0 < 1) || decide (1000 < y0)

end Go.Proofs.YtleknidlgmmgbaaGreat
