/- Bits of words: and, xor, and the document's Turned. -/
import Derived.Laws.BitsLemmas
set_option linter.all false
namespace Go.Proofs.YtleknidlgmmgbaaGreat

section
structure Ord where
  op : Int
  fr : Int
  tt : Int
  nx : Int
deriving DecidableEq
structure St4 where
  store : List Int
  tape : List Int
  taken : Int
  printed : List Int
  time : Int
  pc : Int
  done : Int
  why : Int
deriving DecidableEq
def inI (n a b : Int) : Bool := decide (a ≤ n) && decide (n ≤ b)
theorem inI_iff (n a b : Int) : inI n a b = true ↔ a ≤ n ∧ n ≤ b := by unfold inI; rw [Bool.and_eq_true, decide_eq_true_eq, decide_eq_true_eq]
def wordB (n : Int) : Bool := inI n 0 16777215
def addrB (n : Int) : Bool := inI n 0 127
def decodeO (w : Int) : Ord := ⟨w / 128 / 128 / 128, w / 128 / 128 % 128, w / 128 % 128, w % 128⟩
def signI (w : Int) : Int := if 8388608 ≤ w then w - 16777216 else w
def afterT (t a : Int) : Int := t + 1 + (a - t - 1) % 16
def nextO (o : Ord) (neg : Bool) : Int := if o.op = 5 ∧ neg = true then o.tt else o.nx
def t1O (o : Ord) (t : Int) : Int := if o.op = 6 then t else afterT t o.fr
def t2O (o : Ord) (t : Int) : Int := if o.op = 5 ∨ o.op = 7 then t1O o t else afterT (t1O o t) o.tt
def timeO (o : Ord) (t : Int) : Int := if o.op = 4 then afterT (t2O o t + 12) o.tt else t2O o t
def untilO (o : Ord) (t : Int) (neg : Bool) : Int := afterT (timeO o t) (nextO o neg)
def oddU (l : List Int) : Nat → Int
  | 0 => -1
  | i + 1 => if 0 ≤ oddU l i then oddU l i else if wordB (l.getD i 0) = true then -1 else i
/-- the first that is no word -/
def oddI (l : List Int) : Int := oddU l l.length
def chk4 (s : St4) : Int × Int × Int :=
  if s.store.length ≠ 128 ∨ 200 < s.tape.length ∨ 200 < s.printed.length then (1, 0, 3)
  else if 0 ≤ oddI s.store then (2, oddI s.store, 7)
  else if 0 ≤ oddI s.tape then (3, oddI s.tape, 7)
  else if 0 ≤ oddI s.printed then (4, oddI s.printed, 7)
  else if inI s.taken 0 s.tape.length = false ∨ inI s.time 0 1000000000 = false ∨ addrB s.pc = false ∨ inI s.done 0 s.time = false ∨ inI s.why 0 4 = false then (5, 0, 7)
  else if s.time % 16 ≠ s.pc % 16 then (6, 0, 2)
  else (0, 0, 0)
def prodI (a b : Int) : Int := (signI a * signI b / 8388608) % 16777216
def storeO (s : St4) (o : Ord) (a b : Int) : List Int :=
  if o.op = 1 then s.store.set o.tt.toNat a
  else if o.op = 2 then s.store.set o.tt.toNat ((a + b) % 16777216)
  else if o.op = 3 then s.store.set o.tt.toNat ((b - a) % 16777216)
  else if o.op = 4 then s.store.set o.tt.toNat (prodI a b)
  else if o.op = 6 then s.store.set o.tt.toNat (s.tape.getD s.taken.toNat 0)
  else s.store
def orderOf (s : St4) : Ord := decodeO (s.store.getD s.pc.toNat 0)
def frOf (s : St4) : Int := s.store.getD (orderOf s).fr.toNat 0
def ttOf (s : St4) : Int := s.store.getD (orderOf s).tt.toNat 0
/-- at which a run ends, instead of the order -/
def whyOf (s : St4) : Int :=
  if (orderOf s).op = 0 then 1
  else if (orderOf s).op = 6 ∧ s.taken = s.tape.length then 2
  else if (orderOf s).op = 7 ∧ s.printed.length = 200 then 3
  else if 1000000000 < untilO (orderOf s) s.time (decide (signI (frOf s) < 0)) then 4
  else 0
def step4 (s : St4) : St4 :=
  if whyOf s ≠ 0 then { s with why := whyOf s }
  else { store := storeO s (orderOf s) (frOf s) (ttOf s), tape := s.tape, taken := if (orderOf s).op = 6 then s.taken + 1 else s.taken, printed := if (orderOf s).op = 7 then s.printed ++ [frOf s] else s.printed,
         time := untilO (orderOf s) s.time (decide (signI (frOf s) < 0)), pc := nextO (orderOf s) (decide (signI (frOf s) < 0)), done := s.done + 1, why := s.why }
def go4 (s : St4) : St4 := if s.why = 0 then step4 s else s
def run4 : Nat → St4 → St4
  | 0, s => s
  | n + 1, s => run4 n (go4 s)

structure OkI (s : St4) : Prop where
  l0 : s.store.length = 128
  l1 : s.tape.length ≤ 200
  l2 : s.printed.length ≤ 200
  w0 : ∀ x ∈ s.store, 0 ≤ x ∧ x ≤ 16777215
  w1 : ∀ x ∈ s.tape, 0 ≤ x ∧ x ≤ 16777215
  w2 : ∀ x ∈ s.printed, 0 ≤ x ∧ x ≤ 16777215
  tk : 0 ≤ s.taken ∧ s.taken ≤ s.tape.length
  tm : 0 ≤ s.time ∧ s.time ≤ 1000000000
  pc : 0 ≤ s.pc ∧ s.pc ≤ 127
  dn : 0 ≤ s.done ∧ s.done ≤ s.time
  wy : 0 ≤ s.why ∧ s.why ≤ 4
  al : s.time % 16 = s.pc % 16
theorem getD_in {l : List Int} {i : Nat} (hi : i < l.length) {d : Int} : l.getD i d ∈ l := by
  rw [List.getD_eq_getElem?_getD, List.getElem?_eq_getElem hi]; exact List.getElem_mem hi
theorem oddU_neg {l : List Int} : ∀ {n : Nat}, oddU l n < 0 ↔ ∀ i, i < n → wordB (l.getD i 0) = true
  | 0 => by simp [oddU]
  | n + 1 => by
    unfold oddU
    constructor
    · intro h i hi
      split at h
      · omega
      · rename_i h1
        split at h
        · rename_i h2
          rcases Nat.lt_or_ge i n with h3 | h3
          · exact (oddU_neg (n := n)).1 (by omega) i h3
          · have : i = n := by omega
            subst this; exact h2
        · omega
    · intro h
      have h1 := (oddU_neg (l := l) (n := n)).2 (fun i hi => h i (by omega))
      rw [if_neg (by omega), if_pos (h n (by omega))]
      omega
theorem oddI_neg {l : List Int} : oddI l < 0 ↔ ∀ x ∈ l, 0 ≤ x ∧ x ≤ 16777215 := by
  unfold oddI
  rw [oddU_neg]
  constructor
  · intro h x hx
    obtain ⟨i, hi, rfl⟩ := List.mem_iff_getElem.1 hx
    have := h i hi
    rw [List.getD_eq_getElem?_getD, List.getElem?_eq_getElem hi] at this
    exact (inI_iff _ _ _).1 this
  · intro h i hi
    exact (inI_iff _ _ _).2 (h _ (getD_in hi))
theorem ok_iff {s : St4} : (chk4 s).2.2 = 0 ↔ OkI s := by
  unfold chk4
  constructor
  · intro h
    split at h
    · cases h
    rename_i h1
    split at h
    · cases h
    rename_i h2
    split at h
    · cases h
    rename_i h3
    split at h
    · cases h
    rename_i h4
    split at h
    · cases h
    rename_i h5
    split at h
    · cases h
    rename_i h6
    simp only [not_or, Bool.not_eq_false, addrB, inI_iff] at h5
    exact ⟨by omega, by omega, by omega, oddI_neg.1 (by omega), oddI_neg.1 (by omega), oddI_neg.1 (by omega), h5.1, h5.2.1, h5.2.2.1, h5.2.2.2.1, h5.2.2.2.2, by omega⟩
  · intro h
    have a0 := oddI_neg.2 h.w0
    have a1 := oddI_neg.2 h.w1
    have a2 := oddI_neg.2 h.w2
    have b0 := h.l0; have b1 := h.l1; have b2 := h.l2
    rw [if_neg (by omega), if_neg (by omega), if_neg (by omega), if_neg (by omega), if_neg, if_neg]
    · have := h.al; omega
    · simp only [not_or, Bool.not_eq_false, addrB, inI_iff]
      exact ⟨h.tk, h.tm, h.pc, h.dn, h.wy⟩
theorem afterT_gt (t a : Int) : t < afterT t a ∧ afterT t a ≤ t + 16 ∧ afterT t a % 16 = a % 16 := by unfold afterT; omega
theorem decode_bd {w : Int} (h : 0 ≤ w ∧ w ≤ 16777215) : (0 ≤ (decodeO w).op ∧ (decodeO w).op ≤ 7) ∧ (0 ≤ (decodeO w).fr ∧ (decodeO w).fr ≤ 127) ∧ (0 ≤ (decodeO w).tt ∧ (decodeO w).tt ≤ 127) ∧ (0 ≤ (decodeO w).nx ∧ (decodeO w).nx ≤ 127) := by
  unfold decodeO
  simp only
  omega
theorem timeO_gt (o : Ord) (t : Int) : t < timeO o t ∧ timeO o t ≤ t + 64 := by
  have h1 := afterT_gt t o.fr
  have h2 : t ≤ t1O o t ∧ t1O o t ≤ t + 16 ∧ (o.op ≠ 6 → t < t1O o t) := by unfold t1O; split <;> omega
  have h3 := afterT_gt (t1O o t) o.tt
  have h4 : t < t2O o t ∧ t2O o t ≤ t + 32 := by unfold t2O; split <;> omega
  have h5 := afterT_gt (t2O o t + 12) o.tt
  unfold timeO
  split <;> omega
theorem untilO_gt (o : Ord) (t : Int) (neg : Bool) : t < untilO o t neg ∧ untilO o t neg ≤ t + 80 ∧ untilO o t neg % 16 = nextO o neg % 16 := by
  have h1 := timeO_gt o t
  have h2 := afterT_gt (timeO o t) (nextO o neg)
  unfold untilO
  omega
theorem set_in {l : List Int} {P : Int → Prop} (h : ∀ x ∈ l, P x) {i : Nat} {v : Int} (hv : P v) : ∀ x ∈ l.set i v, P x := by
  intro x hx
  rcases List.mem_or_eq_of_mem_set hx with h1 | h1
  · exact h x h1
  · rw [h1]; exact hv
theorem OkI.ord {s : St4} (h : OkI s) : (0 ≤ (orderOf s).op ∧ (orderOf s).op ≤ 7) ∧ (0 ≤ (orderOf s).fr ∧ (orderOf s).fr ≤ 127) ∧ (0 ≤ (orderOf s).tt ∧ (orderOf s).tt ≤ 127) ∧ (0 ≤ (orderOf s).nx ∧ (orderOf s).nx ≤ 127) :=
  decode_bd (h.w0 _ (getD_in (by have := h.pc; have := h.l0; omega)))
theorem OkI.fr {s : St4} (h : OkI s) : 0 ≤ frOf s ∧ frOf s ≤ 16777215 := h.w0 _ (getD_in (by have := h.ord.2.1; have := h.l0; omega))
theorem OkI.tt {s : St4} (h : OkI s) : 0 ≤ ttOf s ∧ ttOf s ≤ 16777215 := h.w0 _ (getD_in (by have := h.ord.2.2.1; have := h.l0; omega))
theorem OkI.why {s : St4} (h : OkI s) : 0 ≤ whyOf s ∧ whyOf s ≤ 4 := by
  unfold whyOf
  split
  · omega
  · split
    · omega
    · split
      · omega
      · split <;> omega
theorem step_ok4 {s : St4} (h : OkI s) : OkI (step4 s) := by
  unfold step4
  have hw := h.why
  split
  · exact ⟨h.l0, h.l1, h.l2, h.w0, h.w1, h.w2, h.tk, h.tm, h.pc, h.dn, hw, h.al⟩
  · rename_i h0
    have h0' : whyOf s = 0 := by omega
    obtain ⟨o1, o2, o3, o4⟩ := h.ord
    have hf := h.fr
    have ht := h.tt
    have hu := untilO_gt (orderOf s) s.time (decide (signI (frOf s) < 0))
    have hl := h.l0
    have c2 : ¬ ((orderOf s).op = 6 ∧ s.taken = s.tape.length) ∧ ¬ ((orderOf s).op = 7 ∧ s.printed.length = 200) ∧ ¬ 1000000000 < untilO (orderOf s) s.time (decide (signI (frOf s) < 0)) := by
      unfold whyOf at h0'
      split at h0'
      · omega
      · split at h0'
        · omega
        · split at h0'
          · omega
          · split at h0'
            · omega
            · rename_i a1 a2 a3 a4
              exact ⟨a2, a3, a4⟩
    obtain ⟨c3, c4, c5⟩ := c2
    have hst : (storeO s (orderOf s) (frOf s) (ttOf s)).length = 128 ∧ ∀ x ∈ storeO s (orderOf s) (frOf s) (ttOf s), 0 ≤ x ∧ x ≤ 16777215 := by
      unfold storeO
      split
      · exact ⟨by rw [List.length_set]; exact hl, set_in h.w0 hf⟩
      · split
        · exact ⟨by rw [List.length_set]; exact hl, set_in h.w0 (by omega)⟩
        · split
          · exact ⟨by rw [List.length_set]; exact hl, set_in h.w0 (by omega)⟩
          · split
            · exact ⟨by rw [List.length_set]; exact hl, set_in h.w0 (by unfold prodI; omega)⟩
            · split
              · rename_i h6
                refine ⟨by rw [List.length_set]; exact hl, set_in h.w0 (h.w1 _ (getD_in ?_))⟩
                have := h.tk
                omega
              · exact ⟨hl, h.w0⟩
    have hnx : 0 ≤ nextO (orderOf s) (decide (signI (frOf s) < 0)) ∧ nextO (orderOf s) (decide (signI (frOf s) < 0)) ≤ 127 := by unfold nextO; split <;> omega
    have htm := h.tm
    have hdn := h.dn
    have htk := h.tk
    have hl2 := h.l2
    refine ⟨hst.1, h.l1, ?_, hst.2, h.w1, ?_, ?_, ⟨by show 0 ≤ untilO _ _ _; omega, by show untilO _ _ _ ≤ _; omega⟩, hnx, ⟨by show 0 ≤ s.done + 1; omega, by show s.done + 1 ≤ untilO _ _ _; omega⟩, h.wy, hu.2.2⟩
    · show (if (orderOf s).op = 7 then s.printed ++ [frOf s] else s.printed).length ≤ 200
      split
      · simp; omega
      · exact h.l2
    · show ∀ x ∈ (if (orderOf s).op = 7 then s.printed ++ [frOf s] else s.printed), _
      split
      · intro x hx
        rcases List.mem_append.1 hx with h1 | h1
        · exact h.w2 x h1
        · rw [List.mem_singleton] at h1; subst h1; exact hf
      · exact h.w2
    · show 0 ≤ (if (orderOf s).op = 6 then s.taken + 1 else s.taken) ∧ (if (orderOf s).op = 6 then s.taken + 1 else s.taken) ≤ s.tape.length
      split <;> omega
theorem go_ok4 {s : St4} (h : OkI s) : OkI (go4 s) := by unfold go4; split; exact step_ok4 h; exact h
theorem run_ok4 : ∀ {n : Nat} {s : St4}, OkI s → OkI (run4 n s)
  | 0, _, h => h
  | n + 1, _, h => run_ok4 (n := n) (go_ok4 h)
theorem run4_add (m : Nat) : ∀ (n : Nat) (s : St4), run4 (n + m) s = run4 m (run4 n s)
  | 0, s => by simp [run4]
  | n + 1, s => by rw [show n + 1 + m = (n + m) + 1 by omega]; exact run4_add m n (go4 s)
theorem run4_snoc (n : Nat) (s : St4) : run4 (n + 1) s = go4 (run4 n s) := by rw [run4_add 1 n s]; rfl
theorem run4_end : ∀ {n : Nat} {s : St4}, s.why ≠ 0 → run4 n s = s
  | 0, _, _ => rfl
  | n + 1, s, h => by
    have : go4 s = s := by unfold go4; rw [if_neg h]
    show run4 n (go4 s) = s
    rw [this]; exact run4_end h
end

section
theorem i64_andm (n : Int) (m : Nat) (hm : m ≤ 62) (c : Int) (hc : c = ((2 ^ m - 1 : Nat) : Int)) : bits .and .i64 n c = n % ((2 ^ m : Nat) : Int) := by
  subst hc
  have hp : 2 ^ m ≤ 2 ^ 62 := Nat.pow_le_pow_right (by decide) hm
  have hp0 : 0 < 2 ^ m := Nat.pow_pos (by decide)
  have h1 : (BitVec.ofInt 64 (((2 ^ m - 1 : Nat) : Int))).toNat = 2 ^ m - 1 := by
    rw [BitVec.ofInt_natCast, BitVec.toNat_ofNat]; exact Nat.mod_eq_of_lt (by omega)
  have key : (BitVec.ofInt 64 n &&& BitVec.ofInt 64 (((2 ^ m - 1 : Nat) : Int))).toNat = (n % ((2 ^ 64 : Nat) : Int)).toNat % 2 ^ m := by
    rw [BitVec.toNat_and, BitVec.toNat_ofInt, h1, Nat.and_two_pow_sub_one_eq_mod]
  show IntKind.i64.wrap ((BitVec.ofInt 64 n &&& BitVec.ofInt 64 (((2 ^ m - 1 : Nat) : Int))).toNat : Nat) = _
  rw [key, IntKind.wrap_i64]
  have hd : ((2 ^ m : Nat) : Int) ∣ ((2 ^ 64 : Nat) : Int) := Int.natCast_dvd_natCast.2 (Nat.pow_dvd_pow 2 (by omega))
  have e1 : (((n % ((2 ^ 64 : Nat) : Int)).toNat % 2 ^ m : Nat) : Int) = n % ((2 ^ m : Nat) : Int) := by
    rw [Int.natCast_emod, Int.toNat_of_nonneg (Int.emod_nonneg _ (by decide)), Int.emod_emod_of_dvd _ hd]
  rw [e1]
  have b1 := Int.emod_nonneg n (b := ((2 ^ m : Nat) : Int)) (by omega)
  have b2 := Int.emod_lt_of_pos n (b := ((2 ^ m : Nat) : Int)) (by omega)
  omega
theorem i64_and15 (n : Int) : bits .and .i64 n 15 = n % 16 := i64_andm n 4 (by decide) 15 (by decide)
theorem i64_and127' (n : Int) : bits .and .i64 n 127 = n % 128 := i64_andm n 7 (by decide) 127 (by decide)
theorem i64_andW (n : Int) : bits .and .i64 n 16777215 = n % 16777216 := i64_andm n 24 (by decide) 16777215 (by decide)
/-- a word with bits turned over -/
def xorI (a b : Int) : Int := ((a.toNat ^^^ b.toNat : Nat) : Int)
theorem xorI_bd {a b : Int} (ha : 0 ≤ a ∧ a ≤ 16777215) (hb : 0 ≤ b ∧ b ≤ 16777215) : 0 ≤ xorI a b ∧ xorI a b ≤ 16777215 := by
  unfold xorI
  have := Nat.xor_lt_two_pow (x := a.toNat) (y := b.toNat) (n := 24) (by omega) (by omega)
  omega
theorem i64_xor {a b : Int} (ha : 0 ≤ a ∧ a ≤ 16777215) (hb : 0 ≤ b ∧ b ≤ 16777215) : bits .xor .i64 a b = xorI a b := by
  obtain ⟨x, rfl⟩ := Int.eq_ofNat_of_zero_le ha.1
  obtain ⟨y, rfl⟩ := Int.eq_ofNat_of_zero_le hb.1
  have hx : (BitVec.ofInt 64 (x : Int)).toNat = x := by rw [BitVec.ofInt_natCast, BitVec.toNat_ofNat]; exact Nat.mod_eq_of_lt (by omega)
  have hy : (BitVec.ofInt 64 (y : Int)).toNat = y := by rw [BitVec.ofInt_natCast, BitVec.toNat_ofNat]; exact Nat.mod_eq_of_lt (by omega)
  have hb2 := Nat.xor_lt_two_pow (x := x) (y := y) (n := 24) (by omega) (by omega)
  show IntKind.i64.wrap ((BitVec.ofInt 64 (x : Int) ^^^ BitVec.ofInt 64 (y : Int)).toNat : Nat) = _
  rw [BitVec.toNat_xor, hx, hy, IntKind.wrap_i64]
  unfold xorI
  rw [Int.toNat_natCast, Int.toNat_natCast]
  omega
/-- the first n bits, one after the other -/
def turnU (a b : Int) : Nat → Int
  | 0 => 0
  | n + 1 => turnU a b n + if a / ((2 ^ n : Nat) : Int) % 2 ≠ b / ((2 ^ n : Nat) : Int) % 2 then ((2 ^ n : Nat) : Int) else 0
theorem turnU_xor (a b : Nat) : ∀ n, turnU a b n = (((a ^^^ b) % 2 ^ n : Nat) : Int)
  | 0 => by simp [turnU, Nat.mod_one]
  | n + 1 => by
    unfold turnU
    rw [turnU_xor a b n]
    have e : (a ^^^ b) % 2 ^ (n + 1) = (a ^^^ b) % 2 ^ n + if a / 2 ^ n % 2 ≠ b / 2 ^ n % 2 then 2 ^ n else 0 := by
      rw [Nat.pow_succ, Nat.mod_mul]
      congr 1
      have h1 : (a ^^^ b) / 2 ^ n % 2 = (a / 2 ^ n % 2 + b / 2 ^ n % 2) % 2 := by
        have t1 := Nat.testBit_xor a b n
        rw [Nat.testBit_eq_decide_div_mod_eq, Nat.testBit_eq_decide_div_mod_eq, Nat.testBit_eq_decide_div_mod_eq] at t1
        have m1 := Nat.mod_lt (a / 2 ^ n) (show 0 < 2 by decide)
        have m2 := Nat.mod_lt (b / 2 ^ n) (show 0 < 2 by decide)
        have m3 := Nat.mod_lt ((a ^^^ b) / 2 ^ n) (show 0 < 2 by decide)
        rcases (show a / 2 ^ n % 2 = 0 ∨ a / 2 ^ n % 2 = 1 by omega) with g1 | g1 <;> rcases (show b / 2 ^ n % 2 = 0 ∨ b / 2 ^ n % 2 = 1 by omega) with g2 | g2 <;> rw [g1, g2] at t1 ⊢ <;> simp at t1 ⊢ <;> omega
      rw [h1]
      have m1 := Nat.mod_lt (a / 2 ^ n) (show 0 < 2 by decide)
      have m2 := Nat.mod_lt (b / 2 ^ n) (show 0 < 2 by decide)
      rcases (show a / 2 ^ n % 2 = 0 ∨ a / 2 ^ n % 2 = 1 by omega) with g1 | g1 <;> rcases (show b / 2 ^ n % 2 = 0 ∨ b / 2 ^ n % 2 = 1 by omega) with g2 | g2 <;> rw [g1, g2] <;> simp
    rw [e]
    have c1 : ((a : Int) / ((2 ^ n : Nat) : Int) % 2 ≠ (b : Int) / ((2 ^ n : Nat) : Int) % 2) ↔ (a / 2 ^ n % 2 ≠ b / 2 ^ n % 2) := by
      have i1 : (a : Int) / ((2 ^ n : Nat) : Int) % 2 = ((a / 2 ^ n % 2 : Nat) : Int) := by rw [Int.natCast_emod, Int.natCast_ediv]; rfl
      have i2 : (b : Int) / ((2 ^ n : Nat) : Int) % 2 = ((b / 2 ^ n % 2 : Nat) : Int) := by rw [Int.natCast_emod, Int.natCast_ediv]; rfl
      rw [i1, i2]
      omega
    by_cases h : a / 2 ^ n % 2 ≠ b / 2 ^ n % 2
    · rw [if_pos h, if_pos (c1.2 h)]; omega
    · rw [if_neg h, if_neg (fun g => h (c1.1 g))]; omega
theorem turned_eq {a b : Int} (ha : 0 ≤ a ∧ a ≤ 16777215) (hb : 0 ≤ b ∧ b ≤ 16777215) : turnU a b 24 = xorI a b := by
  obtain ⟨x, rfl⟩ := Int.eq_ofNat_of_zero_le ha.1
  obtain ⟨y, rfl⟩ := Int.eq_ofNat_of_zero_le hb.1
  rw [turnU_xor]
  unfold xorI
  rw [Int.toNat_natCast, Int.toNat_natCast, Nat.mod_eq_of_lt (Nat.xor_lt_two_pow (by omega) (by omega))]
end


end Go.Proofs.YtleknidlgmmgbaaGreat
