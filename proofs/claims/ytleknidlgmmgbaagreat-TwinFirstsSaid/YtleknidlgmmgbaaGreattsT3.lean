/- The two machines of layer 12, as the document has them. -/
import Derived.Test.YtleknidlgmmgbaaGreattsT2
set_option linter.all false
namespace Go.Proofs.YtleknidlgmmgbaaGreat

structure Flt where
  done : Int
  addr : Int
  mask : Int
deriving DecidableEq
def fErr (f : Flt) : Int := if inI f.done 0 1000 = false ∨ inI f.mask 1 16777215 = false then 7 else if addrB f.addr = false then 4 else 0
def flErr (fs : List Flt) : Int := ((fs.find? fun f => fErr f != 0).map fErr).getD 0
def askErr12 (s : St4) (fs : List Flt) (most : Int) : Int :=
  if (chk4 s).2.2 ≠ 0 then (chk4 s).2.2 else if 10 < fs.length then 3 else if flErr fs ≠ 0 then flErr fs else if inI most 0 1000 = false then 7 else 0
def hitS (fs : List Flt) (n : Int) (st : List Int) : List Int := (fs.filter fun f => decide (f.done = n)).foldl (fun st f => st.set f.addr.toNat (xorI (st.getD f.addr.toNat 0) f.mask)) st
def hit4 (s : St4) (fs : List Flt) (n : Int) : St4 := { s with store := hitS fs n s.store }
def do12 (fs : List Flt) (n : Int) (s : St4) : St4 := if s.why = 0 then step4 (hit4 s fs n) else s
/-- so many orders, the next one with the number from -/
def after12 (fs : List Flt) : Nat → Nat → St4 → St4
  | _, 0, s => s
  | b, k + 1, s => after12 fs (b + 1) k (do12 fs b s)
def run12 (s : St4) (fs : List Flt) (most : Nat) : St4 := after12 fs 0 most s
def FOk (fs : List Flt) : Prop := ∀ f ∈ fs, (0 ≤ f.done ∧ f.done ≤ 1000) ∧ (0 ≤ f.addr ∧ f.addr ≤ 127) ∧ (1 ≤ f.mask ∧ f.mask ≤ 16777215)
theorem fErr_zero {f : Flt} : fErr f = 0 ↔ (0 ≤ f.done ∧ f.done ≤ 1000) ∧ (0 ≤ f.addr ∧ f.addr ≤ 127) ∧ (1 ≤ f.mask ∧ f.mask ≤ 16777215) := by
  unfold fErr
  constructor
  · intro h
    split at h
    · cases h
    · rename_i h1
      split at h
      · cases h
      · rename_i h2
        simp only [not_or, Bool.not_eq_false, addrB, inI_iff] at h1 h2
        exact ⟨h1.1, h2, h1.2⟩
  · rintro ⟨h1, h2, h3⟩
    rw [if_neg, if_neg]
    · simp only [Bool.not_eq_false, addrB, inI_iff]; exact h2
    · simp only [not_or, Bool.not_eq_false, inI_iff]; exact ⟨h1, h3⟩
theorem flErr_zero {fs : List Flt} : flErr fs = 0 ↔ FOk fs := by
  unfold flErr FOk
  cases hf : fs.find? (fun f => fErr f != 0) with
  | none =>
    have := List.find?_eq_none.1 hf
    simp at this
    exact ⟨fun _ f hm => fErr_zero.1 (this f hm), fun _ => rfl⟩
  | some y =>
    have h1 := List.find?_some hf
    have h2 := List.mem_of_find?_eq_some hf
    simp at h1
    constructor
    · intro h; exact absurd h h1
    · intro h; exact absurd (fErr_zero.2 (h y h2)) h1
theorem ask12_zero {s : St4} {fs : List Flt} {most : Int} : askErr12 s fs most = 0 ↔ OkI s ∧ fs.length ≤ 10 ∧ FOk fs ∧ 0 ≤ most ∧ most ≤ 1000 := by
  unfold askErr12
  constructor
  · intro h
    split at h
    · rename_i h1; exact absurd h h1
    rename_i h1
    split at h
    · cases h
    rename_i h2
    split at h
    · rename_i h3; exact absurd h h3
    rename_i h3
    split at h
    · cases h
    rename_i h4
    have h4' : inI most 0 1000 = true := by simpa using h4
    exact ⟨ok_iff.1 (by simpa using h1), by omega, flErr_zero.1 (by simpa using h3), (inI_iff _ _ _).1 h4'⟩
  · rintro ⟨h1, h2, h3, h4⟩
    rw [if_neg (by simp [ok_iff.2 h1]), if_neg (by omega), if_neg (by simp [flErr_zero.2 h3]), if_neg (by rw [(inI_iff _ _ _).2 h4]; decide)]
theorem hitS_ok {n : Int} : ∀ {fs : List Flt} {st : List Int}, FOk fs → st.length = 128 → (∀ x ∈ st, 0 ≤ x ∧ x ≤ 16777215) → (hitS fs n st).length = 128 ∧ ∀ x ∈ hitS fs n st, 0 ≤ x ∧ x ≤ 16777215
  | [], st, _, hl, hw => ⟨hl, hw⟩
  | f :: fs, st, hf, hl, hw => by
    have hf' : FOk fs := fun g hg => hf g (by simp [hg])
    unfold hitS
    by_cases e : f.done = n
    · rw [List.filter_cons_of_pos (by simpa using e), List.foldl_cons]
      obtain ⟨_, h2, h3⟩ := hf f (by simp)
      exact hitS_ok (n := n) (fs := fs) hf' (by rw [List.length_set]; exact hl) (set_in hw (xorI_bd (hw _ (getD_in (by omega))) (by omega)))
    · rw [List.filter_cons_of_neg (by simpa using e)]
      exact hitS_ok (n := n) (fs := fs) hf' hl hw
theorem hit_ok {s : St4} {fs : List Flt} (h : OkI s) (hf : FOk fs) (n : Int) : OkI (hit4 s fs n) :=
  have h1 := hitS_ok (n := n) hf h.l0 h.w0
  ⟨h1.1, h.l1, h.l2, h1.2, h.w1, h.w2, h.tk, h.tm, h.pc, h.dn, h.wy, h.al⟩
theorem do_ok {s : St4} {fs : List Flt} (h : OkI s) (hf : FOk fs) (n : Int) : OkI (do12 fs n s) := by
  unfold do12; split; exact step_ok4 (hit_ok h hf n); exact h
theorem after_ok {fs : List Flt} (hf : FOk fs) : ∀ {k b : Nat} {s : St4}, OkI s → OkI (after12 fs b k s)
  | 0, _, _, h => h
  | k + 1, b, _, h => after_ok hf (k := k) (do_ok h hf b)
theorem after_add (fs : List Flt) (m : Nat) : ∀ (k b : Nat) (s : St4), after12 fs b (k + m) s = after12 fs (b + k) m (after12 fs b k s)
  | 0, b, s => by simp [after12]
  | k + 1, b, s => by
    rw [show k + 1 + m = (k + m) + 1 by omega, show b + (k + 1) = b + 1 + k by omega]
    exact after_add fs m k (b + 1) (do12 fs b s)
theorem after_snoc (fs : List Flt) (b k : Nat) (s : St4) : after12 fs b (k + 1) s = do12 fs ((b + k : Nat) : Int) (after12 fs b k s) := by rw [after_add fs 1 k b s]; rfl
theorem after_end {fs : List Flt} : ∀ {k b : Nat} {s : St4}, s.why ≠ 0 → after12 fs b k s = s
  | 0, _, _, _ => rfl
  | k + 1, b, s, h => by
    have : do12 fs b s = s := by unfold do12; rw [if_neg h]
    show after12 fs (b + 1) k (do12 fs b s) = s
    rw [this]; exact after_end h
/-- what happens to the machine before an order, and the order: as the program does it -/
theorem do_go (fs : List Flt) (n : Int) (s : St4) : do12 fs n s = go4 (if s.why = 0 then hit4 s fs n else s) := by
  unfold do12 go4
  by_cases h : s.why = 0
  · rw [if_pos h, if_pos h, if_pos (show (hit4 s fs n).why = 0 from h)]
  · rw [if_neg h, if_neg h, if_neg h]
theorem hit_none {s : St4} {fs : List Flt} {n : Int} (h : fs.filter (fun f => decide (f.done = n)) = []) : hit4 s fs n = s := by
  unfold hit4 hitS
  rw [h]; rfl
theorem after_nil : ∀ (k b : Nat) (s : St4), after12 [] b k s = run4 k s
  | 0, _, _ => rfl
  | k + 1, b, s => by
    show after12 [] (b + 1) k (do12 [] b s) = run4 k (go4 s)
    have : do12 [] (b : Int) s = go4 s := rfl
    rw [this]; exact after_nil k (b + 1) (go4 s)

/- marks -/
structure Mrk where
  done : Int
  pc : Int
  sl : Int
deriving DecidableEq
/-- after how many orders the i-th stretch ends -/
def endN (every most : Nat) (i : Nat) : Nat := min most ((i + 1) * every)
def cntN (every most : Nat) : Nat := (most + every - 1) / every
/-- whether the i-th stretch comes out differently -/
def difI (s : St4) (fs : List Flt) (every most i : Nat) : Bool := decide (run12 s fs (endN every most i) ≠ after12 [] (i * every) (endN every most i - i * every) (run12 s fs (i * every)))
def halfU (s : St4) (fs : List Flt) (every most : Nat) (odd : Bool) : Nat → List Int
  | 0 => []
  | i + 1 => if (decide (i % 2 = 1) == odd) && difI s fs every most i then halfU s fs every most odd i ++ [(i : Int)] else halfU s fs every most odd i
def halfL (s : St4) (fs : List Flt) (every most : Nat) (odd : Bool) : List Int := halfU s fs every most odd (cntN every most)
structure Stp4 where
  pc : Int
  ord : Ord
  time : Int
  til : Int
deriving DecidableEq
def stepOf (a b : St4) : Stp4 := ⟨a.pc, if a.done < b.done then orderOf a else ⟨0, 0, 0, 0⟩, a.time, b.time⟩
/-- the first order after which the states differ -/
def firstU (s : St4) (fs : List Flt) (n : Nat) : Bool := decide (run12 s fs (n + 1) ≠ run4 (n + 1) s)
def firstN (s : St4) (fs : List Flt) (most : Nat) : Option Nat := (List.range most).find? (firstU s fs)

end Go.Proofs.YtleknidlgmmgbaaGreat
