/- General lemmas: append with the wide limit. -/
import Derived.Laws.BitsLemmas
import Derived.Test.YtleknidlgmmgbaaGreattaG6
import Derived.Deep.DeepAppendWide
set_option linter.all false
namespace Go.Proofs.YtleknidlgmmgbaaGreat

section
structure Ord where
  op : Int
  fr : Int
  tt : Int
  nx : Int
deriving DecidableEq
structure St4 where
  store : List Int
  tape : List Int
  taken : Int
  printed : List Int
  time : Int
  pc : Int
  done : Int
  why : Int
deriving DecidableEq
def inI (n a b : Int) : Bool := decide (a ≤ n) && decide (n ≤ b)
theorem inI_iff (n a b : Int) : inI n a b = true ↔ a ≤ n ∧ n ≤ b := by unfold inI; rw [Bool.and_eq_true, decide_eq_true_eq, decide_eq_true_eq]
def wordB (n : Int) : Bool := inI n 0 16777215
def addrB (n : Int) : Bool := inI n 0 127
def decodeO (w : Int) : Ord := ⟨w / 128 / 128 / 128, w / 128 / 128 % 128, w / 128 % 128, w % 128⟩
def signI (w : Int) : Int := if 8388608 ≤ w then w - 16777216 else w
def afterT (t a : Int) : Int := t + 1 + (a - t - 1) % 16
def nextO (o : Ord) (neg : Bool) : Int := if o.op = 5 ∧ neg = true then o.tt else o.nx
def t1O (o : Ord) (t : Int) : Int := if o.op = 6 then t else afterT t o.fr
def t2O (o : Ord) (t : Int) : Int := if o.op = 5 ∨ o.op = 7 then t1O o t else afterT (t1O o t) o.tt
def timeO (o : Ord) (t : Int) : Int := if o.op = 4 then afterT (t2O o t + 12) o.tt else t2O o t
def untilO (o : Ord) (t : Int) (neg : Bool) : Int := afterT (timeO o t) (nextO o neg)
def oddU (l : List Int) : Nat → Int
  | 0 => -1
  | i + 1 => if 0 ≤ oddU l i then oddU l i else if wordB (l.getD i 0) = true then -1 else i
/-- the first that is no word -/
def oddI (l : List Int) : Int := oddU l l.length
def chk4 (s : St4) : Int × Int × Int :=
  if s.store.length ≠ 128 ∨ 200 < s.tape.length ∨ 200 < s.printed.length then (1, 0, 3)
  else if 0 ≤ oddI s.store then (2, oddI s.store, 7)
  else if 0 ≤ oddI s.tape then (3, oddI s.tape, 7)
  else if 0 ≤ oddI s.printed then (4, oddI s.printed, 7)
  else if inI s.taken 0 s.tape.length = false ∨ inI s.time 0 1000000000 = false ∨ addrB s.pc = false ∨ inI s.done 0 s.time = false ∨ inI s.why 0 4 = false then (5, 0, 7)
  else if s.time % 16 ≠ s.pc % 16 then (6, 0, 2)
  else (0, 0, 0)
def prodI (a b : Int) : Int := (signI a * signI b / 8388608) % 16777216
def storeO (s : St4) (o : Ord) (a b : Int) : List Int :=
  if o.op = 1 then s.store.set o.tt.toNat a
  else if o.op = 2 then s.store.set o.tt.toNat ((a + b) % 16777216)
  else if o.op = 3 then s.store.set o.tt.toNat ((b - a) % 16777216)
  else if o.op = 4 then s.store.set o.tt.toNat (prodI a b)
  else if o.op = 6 then s.store.set o.tt.toNat (s.tape.getD s.taken.toNat 0)
  else s.store
def orderOf (s : St4) : Ord := decodeO (s.store.getD s.pc.toNat 0)
def frOf (s : St4) : Int := s.store.getD (orderOf s).fr.toNat 0
def ttOf (s : St4) : Int := s.store.getD (orderOf s).tt.toNat 0
/-- at which a run ends, instead of the order -/
def whyOf (s : St4) : Int :=
  if (orderOf s).op = 0 then 1
  else if (orderOf s).op = 6 ∧ s.taken = s.tape.length then 2
  else if (orderOf s).op = 7 ∧ s.printed.length = 200 then 3
  else if 1000000000 < untilO (orderOf s) s.time (decide (signI (frOf s) < 0)) then 4
  else 0
def step4 (s : St4) : St4 :=
  if whyOf s ≠ 0 then { s with why := whyOf s }
  else { store := storeO s (orderOf s) (frOf s) (ttOf s), tape := s.tape, taken := if (orderOf s).op = 6 then s.taken + 1 else s.taken, printed := if (orderOf s).op = 7 then s.printed ++ [frOf s] else s.printed,
         time := untilO (orderOf s) s.time (decide (signI (frOf s) < 0)), pc := nextO (orderOf s) (decide (signI (frOf s) < 0)), done := s.done + 1, why := s.why }
def go4 (s : St4) : St4 := if s.why = 0 then step4 s else s
def run4 : Nat → St4 → St4
  | 0, s => s
  | n + 1, s => run4 n (go4 s)

structure OkI (s : St4) : Prop where
  l0 : s.store.length = 128
  l1 : s.tape.length ≤ 200
  l2 : s.printed.length ≤ 200
  w0 : ∀ x ∈ s.store, 0 ≤ x ∧ x ≤ 16777215
  w1 : ∀ x ∈ s.tape, 0 ≤ x ∧ x ≤ 16777215
  w2 : ∀ x ∈ s.printed, 0 ≤ x ∧ x ≤ 16777215
  tk : 0 ≤ s.taken ∧ s.taken ≤ s.tape.length
  tm : 0 ≤ s.time ∧ s.time ≤ 1000000000
  pc : 0 ≤ s.pc ∧ s.pc ≤ 127
  dn : 0 ≤ s.done ∧ s.done ≤ s.time
  wy : 0 ≤ s.why ∧ s.why ≤ 4
  al : s.time % 16 = s.pc % 16
theorem getD_in {l : List Int} {i : Nat} (hi : i < l.length) {d : Int} : l.getD i d ∈ l := by
  rw [List.getD_eq_getElem?_getD, List.getElem?_eq_getElem hi]; exact List.getElem_mem hi
theorem oddU_neg {l : List Int} : ∀ {n : Nat}, oddU l n < 0 ↔ ∀ i, i < n → wordB (l.getD i 0) = true
  | 0 => by simp [oddU]
  | n + 1 => by
    unfold oddU
    constructor
    · intro h i hi
      split at h
      · omega
      · rename_i h1
        split at h
        · rename_i h2
          rcases Nat.lt_or_ge i n with h3 | h3
          · exact (oddU_neg (n := n)).1 (by omega) i h3
          · have : i = n := by omega
            subst this; exact h2
        · omega
    · intro h
      have h1 := (oddU_neg (l := l) (n := n)).2 (fun i hi => h i (by omega))
      rw [if_neg (by omega), if_pos (h n (by omega))]
      omega
theorem oddI_neg {l : List Int} : oddI l < 0 ↔ ∀ x ∈ l, 0 ≤ x ∧ x ≤ 16777215 := by
  unfold oddI
  rw [oddU_neg]
  constructor
  · intro h x hx
    obtain ⟨i, hi, rfl⟩ := List.mem_iff_getElem.1 hx
    have := h i hi
    rw [List.getD_eq_getElem?_getD, List.getElem?_eq_getElem hi] at this
    exact (inI_iff _ _ _).1 this
  · intro h i hi
    exact (inI_iff _ _ _).2 (h _ (getD_in hi))
theorem ok_iff {s : St4} : (chk4 s).2.2 = 0 ↔ OkI s := by
  unfold chk4
  constructor
  · intro h
    split at h
    · cases h
    rename_i h1
    split at h
    · cases h
    rename_i h2
    split at h
    · cases h
    rename_i h3
    split at h
    · cases h
    rename_i h4
    split at h
    · cases h
    rename_i h5
    split at h
    · cases h
    rename_i h6
    simp only [not_or, Bool.not_eq_false, addrB, inI_iff] at h5
    exact ⟨by omega, by omega, by omega, oddI_neg.1 (by omega), oddI_neg.1 (by omega), oddI_neg.1 (by omega), h5.1, h5.2.1, h5.2.2.1, h5.2.2.2.1, h5.2.2.2.2, by omega⟩
  · intro h
    have a0 := oddI_neg.2 h.w0
    have a1 := oddI_neg.2 h.w1
    have a2 := oddI_neg.2 h.w2
    have b0 := h.l0; have b1 := h.l1; have b2 := h.l2
    rw [if_neg (by omega), if_neg (by omega), if_neg (by omega), if_neg (by omega), if_neg, if_neg]
    · have := h.al; omega
    · simp only [not_or, Bool.not_eq_false, addrB, inI_iff]
      exact ⟨h.tk, h.tm, h.pc, h.dn, h.wy⟩
theorem afterT_gt (t a : Int) : t < afterT t a ∧ afterT t a ≤ t + 16 ∧ afterT t a % 16 = a % 16 := by unfold afterT; omega
theorem decode_bd {w : Int} (h : 0 ≤ w ∧ w ≤ 16777215) : (0 ≤ (decodeO w).op ∧ (decodeO w).op ≤ 7) ∧ (0 ≤ (decodeO w).fr ∧ (decodeO w).fr ≤ 127) ∧ (0 ≤ (decodeO w).tt ∧ (decodeO w).tt ≤ 127) ∧ (0 ≤ (decodeO w).nx ∧ (decodeO w).nx ≤ 127) := by
  unfold decodeO
  simp only
  omega
theorem timeO_gt (o : Ord) (t : Int) : t < timeO o t ∧ timeO o t ≤ t + 64 := by
  have h1 := afterT_gt t o.fr
  have h2 : t ≤ t1O o t ∧ t1O o t ≤ t + 16 ∧ (o.op ≠ 6 → t < t1O o t) := by unfold t1O; split <;> omega
  have h3 := afterT_gt (t1O o t) o.tt
  have h4 : t < t2O o t ∧ t2O o t ≤ t + 32 := by unfold t2O; split <;> omega
  have h5 := afterT_gt (t2O o t + 12) o.tt
  unfold timeO
  split <;> omega
theorem untilO_gt (o : Ord) (t : Int) (neg : Bool) : t < untilO o t neg ∧ untilO o t neg ≤ t + 80 ∧ untilO o t neg % 16 = nextO o neg % 16 := by
  have h1 := timeO_gt o t
  have h2 := afterT_gt (timeO o t) (nextO o neg)
  unfold untilO
  omega
theorem set_in {l : List Int} {P : Int → Prop} (h : ∀ x ∈ l, P x) {i : Nat} {v : Int} (hv : P v) : ∀ x ∈ l.set i v, P x := by
  intro x hx
  rcases List.mem_or_eq_of_mem_set hx with h1 | h1
  · exact h x h1
  · rw [h1]; exact hv
theorem OkI.ord {s : St4} (h : OkI s) : (0 ≤ (orderOf s).op ∧ (orderOf s).op ≤ 7) ∧ (0 ≤ (orderOf s).fr ∧ (orderOf s).fr ≤ 127) ∧ (0 ≤ (orderOf s).tt ∧ (orderOf s).tt ≤ 127) ∧ (0 ≤ (orderOf s).nx ∧ (orderOf s).nx ≤ 127) :=
  decode_bd (h.w0 _ (getD_in (by have := h.pc; have := h.l0; omega)))
theorem OkI.fr {s : St4} (h : OkI s) : 0 ≤ frOf s ∧ frOf s ≤ 16777215 := h.w0 _ (getD_in (by have := h.ord.2.1; have := h.l0; omega))
theorem OkI.tt {s : St4} (h : OkI s) : 0 ≤ ttOf s ∧ ttOf s ≤ 16777215 := h.w0 _ (getD_in (by have := h.ord.2.2.1; have := h.l0; omega))
theorem OkI.why {s : St4} (h : OkI s) : 0 ≤ whyOf s ∧ whyOf s ≤ 4 := by
  unfold whyOf
  split
  · omega
  · split
    · omega
    · split
      · omega
      · split <;> omega
theorem step_ok4 {s : St4} (h : OkI s) : OkI (step4 s) := by
  unfold step4
  have hw := h.why
  split
  · exact ⟨h.l0, h.l1, h.l2, h.w0, h.w1, h.w2, h.tk, h.tm, h.pc, h.dn, hw, h.al⟩
  · rename_i h0
    have h0' : whyOf s = 0 := by omega
    obtain ⟨o1, o2, o3, o4⟩ := h.ord
    have hf := h.fr
    have ht := h.tt
    have hu := untilO_gt (orderOf s) s.time (decide (signI (frOf s) < 0))
    have hl := h.l0
    have c2 : ¬ ((orderOf s).op = 6 ∧ s.taken = s.tape.length) ∧ ¬ ((orderOf s).op = 7 ∧ s.printed.length = 200) ∧ ¬ 1000000000 < untilO (orderOf s) s.time (decide (signI (frOf s) < 0)) := by
      unfold whyOf at h0'
      split at h0'
      · omega
      · split at h0'
        · omega
        · split at h0'
          · omega
          · split at h0'
            · omega
            · rename_i a1 a2 a3 a4
              exact ⟨a2, a3, a4⟩
    obtain ⟨c3, c4, c5⟩ := c2
    have hst : (storeO s (orderOf s) (frOf s) (ttOf s)).length = 128 ∧ ∀ x ∈ storeO s (orderOf s) (frOf s) (ttOf s), 0 ≤ x ∧ x ≤ 16777215 := by
      unfold storeO
      split
      · exact ⟨by rw [List.length_set]; exact hl, set_in h.w0 hf⟩
      · split
        · exact ⟨by rw [List.length_set]; exact hl, set_in h.w0 (by omega)⟩
        · split
          · exact ⟨by rw [List.length_set]; exact hl, set_in h.w0 (by omega)⟩
          · split
            · exact ⟨by rw [List.length_set]; exact hl, set_in h.w0 (by unfold prodI; omega)⟩
            · split
              · rename_i h6
                refine ⟨by rw [List.length_set]; exact hl, set_in h.w0 (h.w1 _ (getD_in ?_))⟩
                have := h.tk
                omega
              · exact ⟨hl, h.w0⟩
    have hnx : 0 ≤ nextO (orderOf s) (decide (signI (frOf s) < 0)) ∧ nextO (orderOf s) (decide (signI (frOf s) < 0)) ≤ 127 := by unfold nextO; split <;> omega
    have htm := h.tm
    have hdn := h.dn
    have htk := h.tk
    have hl2 := h.l2
    refine ⟨hst.1, h.l1, ?_, hst.2, h.w1, ?_, ?_, ⟨by show 0 ≤ untilO _ _ _; omega, by show untilO _ _ _ ≤ _; omega⟩, hnx, ⟨by show 0 ≤ s.done + 1; omega, by show s.done + 1 ≤ untilO _ _ _; omega⟩, h.wy, hu.2.2⟩
    · show (if (orderOf s).op = 7 then s.printed ++ [frOf s] else s.printed).length ≤ 200
      split
      · simp; omega
      · exact h.l2
    · show ∀ x ∈ (if (orderOf s).op = 7 then s.printed ++ [frOf s] else s.printed), _
      split
      · intro x hx
        rcases List.mem_append.1 hx with h1 | h1
        · exact h.w2 x h1
        · rw [List.mem_singleton] at h1; subst h1; exact hf
      · exact h.w2
    · show 0 ≤ (if (orderOf s).op = 6 then s.taken + 1 else s.taken) ∧ (if (orderOf s).op = 6 then s.taken + 1 else s.taken) ≤ s.tape.length
      split <;> omega
theorem run4_add (m : Nat) : ∀ (n : Nat) (s : St4), run4 (n + m) s = run4 m (run4 n s)
  | 0, s => by simp [run4]
  | n + 1, s => by rw [show n + 1 + m = (n + m) + 1 by omega]; exact run4_add m n (go4 s)
theorem run4_snoc (n : Nat) (s : St4) : run4 (n + 1) s = go4 (run4 n s) := by rw [run4_add 1 n s]; rfl
theorem run4_end : ∀ {n : Nat} {s : St4}, s.why ≠ 0 → run4 n s = s
  | 0, _, _ => rfl
  | n + 1, s, h => by
    have : go4 s = s := by unfold go4; rw [if_neg h]
    show run4 n (go4 s) = s
    rw [this]; exact run4_end h
end

section
theorem i64_andm (n : Int) (m : Nat) (hm : m ≤ 62) (c : Int) (hc : c = ((2 ^ m - 1 : Nat) : Int)) : bits .and .i64 n c = n % ((2 ^ m : Nat) : Int) := by
  subst hc
  have hp : 2 ^ m ≤ 2 ^ 62 := Nat.pow_le_pow_right (by decide) hm
  have hp0 : 0 < 2 ^ m := Nat.pow_pos (by decide)
  have h1 : (BitVec.ofInt 64 (((2 ^ m - 1 : Nat) : Int))).toNat = 2 ^ m - 1 := by
    rw [BitVec.ofInt_natCast, BitVec.toNat_ofNat]; exact Nat.mod_eq_of_lt (by omega)
  have key : (BitVec.ofInt 64 n &&& BitVec.ofInt 64 (((2 ^ m - 1 : Nat) : Int))).toNat = (n % ((2 ^ 64 : Nat) : Int)).toNat % 2 ^ m := by
    rw [BitVec.toNat_and, BitVec.toNat_ofInt, h1, Nat.and_two_pow_sub_one_eq_mod]
  show IntKind.i64.wrap ((BitVec.ofInt 64 n &&& BitVec.ofInt 64 (((2 ^ m - 1 : Nat) : Int))).toNat : Nat) = _
  rw [key, IntKind.wrap_i64]
  have hd : ((2 ^ m : Nat) : Int) ∣ ((2 ^ 64 : Nat) : Int) := Int.natCast_dvd_natCast.2 (Nat.pow_dvd_pow 2 (by omega))
  have e1 : (((n % ((2 ^ 64 : Nat) : Int)).toNat % 2 ^ m : Nat) : Int) = n % ((2 ^ m : Nat) : Int) := by
    rw [Int.natCast_emod, Int.toNat_of_nonneg (Int.emod_nonneg _ (by decide)), Int.emod_emod_of_dvd _ hd]
  rw [e1]
  have b1 := Int.emod_nonneg n (b := ((2 ^ m : Nat) : Int)) (by omega)
  have b2 := Int.emod_lt_of_pos n (b := ((2 ^ m : Nat) : Int)) (by omega)
  omega
theorem i64_and15 (n : Int) : bits .and .i64 n 15 = n % 16 := i64_andm n 4 (by decide) 15 (by decide)
theorem i64_and127' (n : Int) : bits .and .i64 n 127 = n % 128 := i64_andm n 7 (by decide) 127 (by decide)
theorem i64_andW (n : Int) : bits .and .i64 n 16777215 = n % 16777216 := i64_andm n 24 (by decide) 16777215 (by decide)
/-- a word with bits turned over -/
def xorI (a b : Int) : Int := ((a.toNat ^^^ b.toNat : Nat) : Int)
theorem xorI_bd {a b : Int} (ha : 0 ≤ a ∧ a ≤ 16777215) (hb : 0 ≤ b ∧ b ≤ 16777215) : 0 ≤ xorI a b ∧ xorI a b ≤ 16777215 := by
  unfold xorI
  have := Nat.xor_lt_two_pow (x := a.toNat) (y := b.toNat) (n := 24) (by omega) (by omega)
  omega
theorem i64_xor {a b : Int} (ha : 0 ≤ a ∧ a ≤ 16777215) (hb : 0 ≤ b ∧ b ≤ 16777215) : bits .xor .i64 a b = xorI a b := by
  obtain ⟨x, rfl⟩ := Int.eq_ofNat_of_zero_le ha.1
  obtain ⟨y, rfl⟩ := Int.eq_ofNat_of_zero_le hb.1
  have hx : (BitVec.ofInt 64 (x : Int)).toNat = x := by rw [BitVec.ofInt_natCast, BitVec.toNat_ofNat]; exact Nat.mod_eq_of_lt (by omega)
  have hy : (BitVec.ofInt 64 (y : Int)).toNat = y := by rw [BitVec.ofInt_natCast, BitVec.toNat_ofNat]; exact Nat.mod_eq_of_lt (by omega)
  have hb2 := Nat.xor_lt_two_pow (x := x) (y := y) (n := 24) (by omega) (by omega)
  show IntKind.i64.wrap ((BitVec.ofInt 64 (x : Int) ^^^ BitVec.ofInt 64 (y : Int)).toNat : Nat) = _
  rw [BitVec.toNat_xor, hx, hy, IntKind.wrap_i64]
  unfold xorI
  rw [Int.toNat_natCast, Int.toNat_natCast]
  omega
end

section
structure Flt where
  done : Int
  addr : Int
  mask : Int
deriving DecidableEq
def fErr (f : Flt) : Int := if inI f.done 0 1000 = false ∨ inI f.mask 1 16777215 = false then 7 else if addrB f.addr = false then 4 else 0
def flErr (fs : List Flt) : Int := ((fs.find? fun f => fErr f != 0).map fErr).getD 0
def askErr12 (s : St4) (fs : List Flt) (most : Int) : Int :=
  if (chk4 s).2.2 ≠ 0 then (chk4 s).2.2 else if 10 < fs.length then 3 else if flErr fs ≠ 0 then flErr fs else if inI most 0 1000 = false then 7 else 0
def hitS (fs : List Flt) (n : Int) (st : List Int) : List Int := (fs.filter fun f => decide (f.done = n)).foldl (fun st f => st.set f.addr.toNat (xorI (st.getD f.addr.toNat 0) f.mask)) st
def hit4 (s : St4) (fs : List Flt) (n : Int) : St4 := { s with store := hitS fs n s.store }
def do12 (fs : List Flt) (n : Int) (s : St4) : St4 := if s.why = 0 then step4 (hit4 s fs n) else s
/-- so many orders, the next one with the number from -/
def after12 (fs : List Flt) : Nat → Nat → St4 → St4
  | _, 0, s => s
  | b, k + 1, s => after12 fs (b + 1) k (do12 fs b s)
def run12 (s : St4) (fs : List Flt) (most : Nat) : St4 := after12 fs 0 most s
def FOk (fs : List Flt) : Prop := ∀ f ∈ fs, (0 ≤ f.done ∧ f.done ≤ 1000) ∧ (0 ≤ f.addr ∧ f.addr ≤ 127) ∧ (1 ≤ f.mask ∧ f.mask ≤ 16777215)
theorem fErr_zero {f : Flt} : fErr f = 0 ↔ (0 ≤ f.done ∧ f.done ≤ 1000) ∧ (0 ≤ f.addr ∧ f.addr ≤ 127) ∧ (1 ≤ f.mask ∧ f.mask ≤ 16777215) := by
  unfold fErr
  constructor
  · intro h
    split at h
    · cases h
    · rename_i h1
      split at h
      · cases h
      · rename_i h2
        simp only [not_or, Bool.not_eq_false, addrB, inI_iff] at h1 h2
        exact ⟨h1.1, h2, h1.2⟩
  · rintro ⟨h1, h2, h3⟩
    rw [if_neg, if_neg]
    · simp only [Bool.not_eq_false, addrB, inI_iff]; exact h2
    · simp only [not_or, Bool.not_eq_false, inI_iff]; exact ⟨h1, h3⟩
theorem flErr_zero {fs : List Flt} : flErr fs = 0 ↔ FOk fs := by
  unfold flErr FOk
  cases hf : fs.find? (fun f => fErr f != 0) with
  | none =>
    have := List.find?_eq_none.1 hf
    simp at this
    exact ⟨fun _ f hm => fErr_zero.1 (this f hm), fun _ => rfl⟩
  | some y =>
    have h1 := List.find?_some hf
    have h2 := List.mem_of_find?_eq_some hf
    simp at h1
    constructor
    · intro h; exact absurd h h1
    · intro h; exact absurd (fErr_zero.2 (h y h2)) h1
theorem ask12_zero {s : St4} {fs : List Flt} {most : Int} : askErr12 s fs most = 0 ↔ OkI s ∧ fs.length ≤ 10 ∧ FOk fs ∧ 0 ≤ most ∧ most ≤ 1000 := by
  unfold askErr12
  constructor
  · intro h
    split at h
    · rename_i h1; exact absurd h h1
    rename_i h1
    split at h
    · cases h
    rename_i h2
    split at h
    · rename_i h3; exact absurd h h3
    rename_i h3
    split at h
    · cases h
    rename_i h4
    have h4' : inI most 0 1000 = true := by simpa using h4
    exact ⟨ok_iff.1 (by simpa using h1), by omega, flErr_zero.1 (by simpa using h3), (inI_iff _ _ _).1 h4'⟩
  · rintro ⟨h1, h2, h3, h4⟩
    rw [if_neg (by simp [ok_iff.2 h1]), if_neg (by omega), if_neg (by simp [flErr_zero.2 h3]), if_neg (by rw [(inI_iff _ _ _).2 h4]; decide)]
theorem hitS_ok {n : Int} : ∀ {fs : List Flt} {st : List Int}, FOk fs → st.length = 128 → (∀ x ∈ st, 0 ≤ x ∧ x ≤ 16777215) → (hitS fs n st).length = 128 ∧ ∀ x ∈ hitS fs n st, 0 ≤ x ∧ x ≤ 16777215
  | [], st, _, hl, hw => ⟨hl, hw⟩
  | f :: fs, st, hf, hl, hw => by
    have hf' : FOk fs := fun g hg => hf g (by simp [hg])
    unfold hitS
    by_cases e : f.done = n
    · rw [List.filter_cons_of_pos (by simpa using e), List.foldl_cons]
      obtain ⟨_, h2, h3⟩ := hf f (by simp)
      exact hitS_ok (n := n) (fs := fs) hf' (by rw [List.length_set]; exact hl) (set_in hw (xorI_bd (hw _ (getD_in (by omega))) (by omega)))
    · rw [List.filter_cons_of_neg (by simpa using e)]
      exact hitS_ok (n := n) (fs := fs) hf' hl hw
theorem hit_ok {s : St4} {fs : List Flt} (h : OkI s) (hf : FOk fs) (n : Int) : OkI (hit4 s fs n) :=
  have h1 := hitS_ok (n := n) hf h.l0 h.w0
  ⟨h1.1, h.l1, h.l2, h1.2, h.w1, h.w2, h.tk, h.tm, h.pc, h.dn, h.wy, h.al⟩
theorem do_ok {s : St4} {fs : List Flt} (h : OkI s) (hf : FOk fs) (n : Int) : OkI (do12 fs n s) := by
  unfold do12; split; exact step_ok4 (hit_ok h hf n); exact h
theorem after_ok {fs : List Flt} (hf : FOk fs) : ∀ {k b : Nat} {s : St4}, OkI s → OkI (after12 fs b k s)
  | 0, _, _, h => h
  | k + 1, b, _, h => after_ok hf (k := k) (do_ok h hf b)
theorem after_add (fs : List Flt) (m : Nat) : ∀ (k b : Nat) (s : St4), after12 fs b (k + m) s = after12 fs (b + k) m (after12 fs b k s)
  | 0, b, s => by simp [after12]
  | k + 1, b, s => by
    rw [show k + 1 + m = (k + m) + 1 by omega, show b + (k + 1) = b + 1 + k by omega]
    exact after_add fs m k (b + 1) (do12 fs b s)
theorem after_snoc (fs : List Flt) (b k : Nat) (s : St4) : after12 fs b (k + 1) s = do12 fs ((b + k : Nat) : Int) (after12 fs b k s) := by rw [after_add fs 1 k b s]; rfl
/-- what happens to the machine before an order, and the order: as the program does it -/
theorem do_go (fs : List Flt) (n : Int) (s : St4) : do12 fs n s = go4 (if s.why = 0 then hit4 s fs n else s) := by
  unfold do12 go4
  by_cases h : s.why = 0
  · rw [if_pos h, if_pos h, if_pos (show (hit4 s fs n).why = 0 from h)]
  · rw [if_neg h, if_neg h, if_neg h]
theorem hit_none {s : St4} {fs : List Flt} {n : Int} (h : fs.filter (fun f => decide (f.done = n)) = []) : hit4 s fs n = s := by
  unfold hit4 hitS
  rw [h]; rfl
theorem after_nil : ∀ (k b : Nat) (s : St4), after12 [] b k s = run4 k s
  | 0, _, _ => rfl
  | k + 1, b, s => by
    show after12 [] (b + 1) k (do12 [] b s) = run4 k (go4 s)
    have : do12 [] (b : Int) s = go4 s := rfl
    rw [this]; exact after_nil k (b + 1) (go4 s)

/- marks -/
structure Mrk where
  done : Int
  pc : Int
  sl : Int
deriving DecidableEq
/-- after how many orders the i-th stretch ends -/
def endN (every most : Nat) (i : Nat) : Nat := min most ((i + 1) * every)
def cntN (every most : Nat) : Nat := (most + every - 1) / every
/-- whether the i-th stretch comes out differently -/
def difI (s : St4) (fs : List Flt) (every most i : Nat) : Bool := decide (run12 s fs (endN every most i) ≠ after12 [] (i * every) (endN every most i - i * every) (run12 s fs (i * every)))
def halfU (s : St4) (fs : List Flt) (every most : Nat) (odd : Bool) : Nat → List Int
  | 0 => []
  | i + 1 => if (decide (i % 2 = 1) == odd) && difI s fs every most i then halfU s fs every most odd i ++ [(i : Int)] else halfU s fs every most odd i
def halfL (s : St4) (fs : List Flt) (every most : Nat) (odd : Bool) : List Int := halfU s fs every most odd (cntN every most)
structure Stp4 where
  pc : Int
  ord : Ord
  time : Int
  til : Int
deriving DecidableEq
def stepOf (a b : St4) : Stp4 := ⟨a.pc, if a.done < b.done then orderOf a else ⟨0, 0, 0, 0⟩, a.time, b.time⟩
/-- the first order after which the states differ -/
def firstU (s : St4) (fs : List Flt) (n : Nat) : Bool := decide (run12 s fs (n + 1) ≠ run4 (n + 1) s)
def firstN (s : St4) (fs : List Flt) (most : Nat) : Option Nat := (List.range most).find? (firstU s fs)
end

section
theorem sign_bd {w : Int} (h : 0 ≤ w ∧ w ≤ 16777215) : -8388608 ≤ signI w ∧ signI w ≤ 8388607 := by unfold signI; split <;> omega
theorem sprod_bd {a b : Int} (ha : 0 ≤ a ∧ a ≤ 16777215) (hb : 0 ≤ b ∧ b ≤ 16777215) : -70368744177664 ≤ signI a * signI b ∧ signI a * signI b ≤ 70368744177664 := by
  have h1 := sign_bd ha
  have h2 := sign_bd hb
  have k1 : signI a * signI b ≤ (signI a).natAbs * (signI b).natAbs := by
    have := Int.le_natAbs (a := signI a * signI b)
    rw [Int.natAbs_mul] at this
    exact_mod_cast this
  have k2 : -((signI a).natAbs * (signI b).natAbs : Int) ≤ signI a * signI b := by
    have := Int.le_natAbs (a := -(signI a * signI b))
    rw [Int.natAbs_neg, Int.natAbs_mul] at this
    have h : -(signI a * signI b) ≤ ((signI a).natAbs * (signI b).natAbs : Int) := by exact_mod_cast this
    omega
  have k3 : (signI a).natAbs * (signI b).natAbs ≤ 8388608 * 8388608 := Nat.mul_le_mul (by omega) (by omega)
  have k4 : ((signI a).natAbs : Int) * ((signI b).natAbs : Int) ≤ 70368744177664 := by have := Int.ofNat_le.2 k3; rw [Int.natCast_mul] at this; omega
  omega
end

section
open Go.RowKit

abbrev int1 (n : Int) : List Value := [.int .i64 n]
abbrev RdInts := Rd int1 1
theorem RdInts.ne {w : World} {a : Option Addr} {l : List Int} (h : RdInts w a l) {k : Nat} (hk : k < l.length) :
    ∃ b off, a = some ⟨b, off, none⟩ ∧ b < w.heap.size ∧ w.cell? ⟨b, off + k, none⟩ = some (.int .i64 l[k]) := by
  obtain ⟨b, off, ha, hb, hc⟩ := Rd.ne h hk; exact ⟨b, off, ha, hb, by simpa using hc 0 _ rfl⟩
theorem rd_at1 {w : World} {b off : Nat} {l : List Int} (h : RdInts w (some ⟨b, off, none⟩) l) {k : Nat} (hk : k < l.length) {y : Int} (hy : l[k] = y) : w.cell? ⟨b, off + k, none⟩ = some (.int .i64 y) := by
  subst hy; obtain ⟨b', o', ha, _, h1⟩ := RdInts.ne h hk
  cases ha
  exact h1
theorem getD_get {α : Type} {l : List α} {i : Nat} (h : i < l.length) (d : α) : l.getD i d = l[i] := by
  rw [List.getD_eq_getElem?_getD, List.getElem?_eq_getElem h]; rfl
theorem oddU_found {l : List Int} : ∀ {n i : Nat}, i < n → (∀ j, j < i → wordB (l.getD j 0) = true) → wordB (l.getD i 0) = false → oddU l n = i
  | 0, i, h, _, _ => by omega
  | n + 1, i, h, h1, h2 => by
    unfold oddU
    by_cases e : i = n
    · subst e
      have := oddU_neg.2 h1; rw [if_neg (by omega), if_neg (by rw [h2]; decide)]
    · rw [oddU_found (by omega) h1 h2, if_pos (by omega)]
theorem oddU_none {l : List Int} : ∀ {n : Nat}, (∀ j, j < n → wordB (l.getD j 0) = true) → oddU l n = -1
  | 0, _ => rfl
  | n + 1, h => by
    unfold oddU; rw [oddU_none (fun j hj => h j (by omega)), if_neg (by omega), if_pos (h n (by omega))]
theorem take_more {α : Type} [DecidableEq α] {x y : List α} {k : Nat} (hx : k < x.length) (hy : k < y.length) (h : x.take k = y.take k) (hk : x[k] = y[k]) : x.take (k + 1) = y.take (k + 1) := by
  rw [List.take_succ_eq_append_getElem hx, List.take_succ_eq_append_getElem hy, h, hk]
theorem load_t27 {w : World} {b o : Nat} {x0 x1 x2 x3 : Value} (h0 : w.cell? ⟨b, o, none⟩ = some x0) (h1 : w.cell? ⟨b, o + 1, none⟩ = some x1) (h2 : w.cell? ⟨b, o + 2, none⟩ = some x2) (h3 : w.cell? ⟨b, o + 3, none⟩ = some x3) :
    (loadVar 27 ⟨b, o, none⟩).run Tryz.prog w = .ok (.agg #[x0, x1, x2, x3]) w := by
  simp [go_sem, h0, h1, h2, h3]
theorem load_t24 {w : World} {b o : Nat} {x0 x1 x2 x3 x4 x5 x6 x7 : Value} (h0 : w.cell? ⟨b, o, none⟩ = some x0) (h1 : w.cell? ⟨b, o + 1, none⟩ = some x1) (h2 : w.cell? ⟨b, o + 2, none⟩ = some x2) (h3 : w.cell? ⟨b, o + 3, none⟩ = some x3) (h4 : w.cell? ⟨b, o + 4, none⟩ = some x4) (h5 : w.cell? ⟨b, o + 5, none⟩ = some x5) (h6 : w.cell? ⟨b, o + 6, none⟩ = some x6) (h7 : w.cell? ⟨b, o + 7, none⟩ = some x7) :
    (loadVar 24 ⟨b, o, none⟩).run Tryz.prog w = .ok (.agg #[x0, x1, x2, x3, x4, x5, x6, x7]) w := by
  simp [go_sem, h0, h1, h2, h3, h4, h5, h6, h7]
theorem load_t29 {w : World} {b o : Nat} {x0 x1 x2 x3 x4 x5 x6 : Value} (h0 : w.cell? ⟨b, o, none⟩ = some x0) (h1 : w.cell? ⟨b, o + 1, none⟩ = some x1) (h2 : w.cell? ⟨b, o + 2, none⟩ = some x2) (h3 : w.cell? ⟨b, o + 3, none⟩ = some x3) (h4 : w.cell? ⟨b, o + 4, none⟩ = some x4) (h5 : w.cell? ⟨b, o + 5, none⟩ = some x5) (h6 : w.cell? ⟨b, o + 6, none⟩ = some x6) :
    (loadVar 29 ⟨b, o, none⟩).run Tryz.prog w = .ok (.agg #[x0, x1, x2, x3, x4, x5, x6]) w := by
  simp [go_sem, h0, h1, h2, h3, h4, h5, h6]
set_option maxRecDepth 100000 in
set_option maxHeartbeats 1000000 in
theorem rin04_any (n a b : Int) (w : World) :
    Calls Tryz.prog 105 #[.int .i64 n, .int .i64 a, .int .i64 b] w (fun e w' => e = .returned (.bool (inI n a b)) ∧ w = w') := by
 refine enter_F Tryz.func105 rfl Tryz.ntmps105 (by simp) ?_
 intro s0 hs; have sl0 : s0 0 = .int .i64 n := hs 0 (by simp); have sl1 : s0 1 = .int .i64 a := hs 1 (by simp); have sl2 : s0 2 = .int .i64 b := hs 2 (by simp); clear hs; have HB := hid (OldB.refl [] w)
 repeat ((fail_if_success refine stp ?_); with_reducible go_step)
 refine region_F ?_; refine pl ?_; refine listF_abs (fun s1 z' => ?_); replace sl0 := gs 0 z' sl0; replace sl1 := gs 1 z' sl1; replace sl2 := gs 2 z' sl2; clear z'; refine listF_nil ?_
 repeat ((fail_if_success refine stp ?_); with_reducible go_step)
 refine region_F ?_
 iterate 4 refine pl ?_
 refine listF_abs (fun s2 z' => ?_); replace sl0 := gs 0 z' sl0; replace sl2 := gs 2 z' sl2; have sl10 := gu 10 z'; clear z' sl1
 refine boolG sl10 (fun sl10' h10 => ?_) (fun sl10' h10 => ?_) <;> (clear sl10; have sl10 := sl10'; clear sl10')
 ·skip
  iterate 3 refine py ?_
  refine pl ?_; refine pl ?_; refine listF_abs (fun s3 z' => ?_); have sl6 := gu 6 z'; clear z' sl0 sl2 sl10; refine listF_nil ?_
  repeat ((fail_if_success refine stp ?_); with_reducible go_step)
  refine ret_F _ (res_t Tryz.results105 ((getD_F (by decide)).trans sl6)) ?_; exact ⟨ret_bool (by unfold inI; simp at *; try omega), rfl⟩
 ·skip
  refine pn false ?_; refine pn false ?_; refine pn false ?_; refine pl ?_; refine pl ?_; refine listF_abs (fun s4 z' => ?_); have sl6 := gu 6 z'; clear z' sl0 sl2 sl10; refine listF_nil ?_
  repeat ((fail_if_success refine stp ?_); with_reducible go_step)
  refine ret_F _ (res_t Tryz.results105 ((getD_F (by decide)).trans sl6)) ?_; exact ⟨ret_bool (by unfold inI; simp at *; try omega), rfl⟩

set_option maxRecDepth 100000 in
set_option maxHeartbeats 1000000 in
theorem rword_any (n : Int) (w : World) :
    Calls Tryz.prog 87 #[.int .i64 n] w (fun e w' => e = .returned (.bool (wordB n)) ∧ w = w') := by
 refine enter_F Tryz.func87 rfl Tryz.ntmps87 (by simp) ?_
 intro s0 hs; have sl0 : s0 0 = .int .i64 n := hs 0 (by simp); clear hs; have HB := hid (OldB.refl [] w)
 repeat ((fail_if_success refine stp ?_); with_reducible go_step)
 refine region_F ?_; refine pl ?_; refine listF_abs (fun s1 z' => ?_); replace sl0 := gs 0 z' sl0; clear z'; refine listF_nil ?_
 repeat ((fail_if_success refine stp ?_); with_reducible go_step)
 refine region_F ?_; refine pl ?_; refine listF_step rfl (fun K' hK => ?_); unfold opF; go_simp; refine (rin04_any n 0 16777215 _).mono ?_; rintro e w' ⟨rfl, rfl⟩; refine ⟨_, rfl, hK _ _ ?_⟩; clear hK K'; refine pl ?_; refine listF_abs (fun s3 z' => ?_); have sl2 := gu 2 z'; clear z' sl0; refine listF_nil ?_
 repeat ((fail_if_success refine stp ?_); with_reducible go_step)
 refine ret_F _ (res_t Tryz.results87 ((getD_F (by decide)).trans sl2)) ?_; exact ⟨rfl, rfl⟩

set_option maxRecDepth 100000 in
set_option maxHeartbeats 1000000 in
theorem raddr_any (n : Int) (w : World) :
    Calls Tryz.prog 84 #[.int .i64 n] w (fun e w' => e = .returned (.bool (addrB n)) ∧ w = w') := by
 refine enter_F Tryz.func84 rfl Tryz.ntmps84 (by simp) ?_
 intro s0 hs; have sl0 : s0 0 = .int .i64 n := hs 0 (by simp); clear hs; have HB := hid (OldB.refl [] w)
 repeat ((fail_if_success refine stp ?_); with_reducible go_step)
 refine region_F ?_; refine pl ?_; refine listF_abs (fun s1 z' => ?_); replace sl0 := gs 0 z' sl0; clear z'; refine listF_nil ?_
 repeat ((fail_if_success refine stp ?_); with_reducible go_step)
 refine region_F ?_; refine pl ?_; refine listF_step rfl (fun K' hK => ?_); unfold opF; go_simp; refine (rin04_any n 0 127 _).mono ?_; rintro e w' ⟨rfl, rfl⟩; refine ⟨_, rfl, hK _ _ ?_⟩; clear hK K'; refine pl ?_; refine listF_abs (fun s3 z' => ?_); have sl2 := gu 2 z'; clear z' sl0; refine listF_nil ?_
 repeat ((fail_if_success refine stp ?_); with_reducible go_step)
 refine ret_F _ (res_t Tryz.results84 ((getD_F (by decide)).trans sl2)) ?_; exact ⟨rfl, rfl⟩

theorem t1O_bd (o : Ord) (t : Int) : t ≤ t1O o t ∧ t1O o t ≤ t + 16 := by have := afterT_gt t o.fr; unfold t1O; split <;> omega
theorem t2O_bd (o : Ord) (t : Int) : t ≤ t2O o t ∧ t2O o t ≤ t + 32 := by have h1 := t1O_bd o t; have := afterT_gt (t1O o t) o.tt; unfold t2O; split <;> omega
theorem nextO_bd {o : Ord} (b : Bool) (ho : (0 ≤ o.op ∧ o.op ≤ 7) ∧ (0 ≤ o.fr ∧ o.fr ≤ 127) ∧ (0 ≤ o.tt ∧ o.tt ≤ 127) ∧ (0 ≤ o.nx ∧ o.nx ≤ 127)) : 0 ≤ nextO o b ∧ nextO o b ≤ 127 := by unfold nextO; split <;> omega

set_option maxRecDepth 100000 in
set_option maxHeartbeats 1000000 in
theorem rodd_any (a : Option Addr) (c : Nat) (l : List Int) (w : World) (hR : RdInts w a l) (hl : l.length ≤ 9223372036854775807) :
    Calls Tryz.prog 100 #[.slice a l.length c] w (fun e w' => e = .returned (.int .i64 (oddI l)) ∧ Below w.heap.size w w') := by
 have HR := hid hR; clear hR
 refine enter_F Tryz.func100 rfl Tryz.ntmps100 (by simp) ?_
 intro s0 hs; have sl0 : s0 0 = .slice a l.length c := hs 0 (by simp); clear hs; have HB := hid (OldB.refl [] w)
 repeat ((fail_if_success refine stp ?_); with_reducible go_step)
 refine region_F ?_; refine pl ?_; refine listF_abs (fun s1 z' => ?_); replace sl0 := gs 0 z' sl0; clear z'; refine listF_nil ?_
 repeat ((fail_if_success refine stp ?_); with_reducible go_step)
 refine region_F ?_; refine pl ?_; refine listF_abs (fun s2 z' => ?_); replace sl0 := gs 0 z' sl0; have sl3 := gu 3 z'; clear z'; refine listF_nil ?_
 repeat ((fail_if_success refine stp ?_); with_reducible go_step)
 have hc0_0 := hid sl0; refine loop_F (n := 17) (fun kJ sJ wJ => ∃ (i : Nat), kJ = l.length - i ∧ sJ 3 = .int .i64 (i : Int) ∧ sJ 0 = s2 0 ∧ OldB [] w wJ ∧ i ≤ l.length ∧ (Hid (∀ j, j < i → wordB (l.getD j 0) = true))) ⟨0, rfl, (by first | exact sl3 | (rw [sl3]; go_num) | (rw [sl3]; rfl)), rfl, OldB.refl _ _, Nat.zero_le _, hid (fun j hj => by omega)⟩ ?_; clear sl3; rintro kJ s3 w4 ⟨i, rfl, sl3, e0, hb5, hil, Hall⟩; replace sl0 := e0.trans sl0; clear e0; have hoJ := hb5; replace HB := hid (HB.out.more hb5 (by simp; try omega)); clear hb5; have HoJ := hid hoJ; clear hoJ; have HL6 := HoJ; clear HoJ
 repeat ((fail_if_success refine stp ?_); with_reducible go_step)
 refine region_F ?_
 iterate 4 refine pl ?_
 refine listF_abs (fun s7 z' => ?_); replace sl0 := gs 0 z' sl0; replace sl3 := gs 3 z' sl3; have sl7 := gu 7 z'; clear z'; refine listF_nil ?_
 repeat ((fail_if_success refine stp ?_); with_reducible go_step)
 refine cond_E sl7 (by decide) ?_ ?_ <;> (clear sl7; intro h7 sl7)
 ·skip
  have hi : i < l.length := by simpa using h7
  have hii : (i : Int) < l.length := by omega
  obtain ⟨b, off, rfl, hb, c0⟩ := RdInts.ne (Rd.oldB HR.out HB.out (by simp)) hi; obtain ⟨y, hy⟩ : ∃ z, l[i] = z := ⟨_, rfl⟩; rw [hy] at c0; have Hy := hid (show l.getD i 0 = y by rw [getD_get hi, hy]); clear hy
  repeat ((fail_if_success refine stp ?_); with_reducible go_step)
  refine region_F ?_
  iterate 4 refine pl ?_
  refine listF_step rfl (fun K' hK => ?_); unfold opF; go_simp; refine (rword_any y _).mono ?_; rintro e w' ⟨rfl, rfl⟩; refine ⟨_, rfl, hK _ _ ?_⟩; clear hK K'; refine pl ?_; refine listF_abs (fun s9 z' => ?_); replace sl0 := gs 0 z' sl0; replace sl3 := gs 3 z' sl3; have sl15 := gu 15 z'; clear z' sl7; refine listF_nil ?_
  repeat ((fail_if_success refine stp ?_); with_reducible go_step)
  refine cond_E sl15 (by decide) ?_ ?_ <;> (clear sl15; intro h15 sl15)
  ·skip
   have Hf := hid (show oddI l = i from oddU_found hi Hall.out (by rw [Hy.out]; simpa using h15))
   repeat ((fail_if_success refine stp ?_); with_reducible go_step)
   refine region_F ?_; refine pl ?_; refine pl ?_; refine listF_abs (fun s10 z' => ?_); have sl2 := gu 2 z'; clear z' sl0 sl3 sl15; refine listF_nil ?_
   repeat ((fail_if_success refine stp ?_); with_reducible go_step)
   refine ret_F _ (res_t Tryz.results100 ((getD_F (by decide)).trans sl2)) ?_; exact ⟨ret_int Hf.out.symm, HB.out.toBelow⟩
  ·skip
   have Hw := hid (show wordB (l.getD i 0) = true by rw [Hy.out]; simpa using h15)
   repeat ((fail_if_success refine stp ?_); with_reducible go_step)
   refine region_F ?_
   iterate 3 refine pl ?_
   refine listF_abs (fun s11 z' => ?_); replace sl0 := gs 0 z' sl0; replace sl3 := gu 3 z'; clear z' sl15; refine listF_nil ?_
   repeat ((fail_if_success refine stp ?_); with_reducible go_step)
   refine ⟨_, _, rfl, ?_, i + 1, rfl, (by first | (with_reducible exact sl3) | (rw [sl3]; (with_reducible go_num); done) | (rw [sl3, IntWalk.i64_in] <;> first | ((with_reducible go_num); done) | omega) | (rw [sl3]; go_num; done) | (rw [sl3]; simp; done) | (rw [sl3]; simp; omega)), (sl0.trans hc0_0.out.symm), HL6.out, by omega, hid (fun j hj => by rcases Nat.lt_or_ge j i with h | h <;> first | exact Hall.out j h | (have e : j = i := (by omega); subst e; exact Hw.out))⟩
   omega
 ·skip
  have hi : i = l.length := by have h := h7; simp at h; omega
  have Hn := hid (show oddI l = -1 from oddU_none (fun j hj => Hall.out j (by omega)))
  repeat ((fail_if_success refine stp ?_); with_reducible go_step)
  clear HL6; clear hc0_0; refine region_F ?_; refine pl ?_; refine listF_abs (fun s12 z' => ?_); have sl2 := gu 2 z'; clear z' sl0 sl3 sl7; refine listF_nil ?_
  repeat ((fail_if_success refine stp ?_); with_reducible go_step)
  refine ret_F _ (res_t Tryz.results100 ((getD_F (by decide)).trans sl2)) ?_; exact ⟨ret_int Hn.out.symm, HB.out.toBelow⟩
end

section
open Go.RowKit


structure SA where
  sa : Option Addr
  sc : Nat
  ta : Option Addr
  tc : Nat
  pa : Option Addr
  pc : Nat
/-- the cells of a state -/
abbrev stC (s : St4) (A : SA) : List Value := [.slice A.sa s.store.length A.sc, .slice A.ta s.tape.length A.tc, .int .i64 s.taken, .slice A.pa s.printed.length A.pc, .int .i64 s.time, .int .i64 s.pc, .int .i64 s.done, .int .i64 s.why]
structure RdSt (w : World) (s : St4) (A : SA) : Prop where
  st : RdInts w A.sa s.store
  tp : RdInts w A.ta s.tape
  pr : RdInts w A.pa s.printed
theorem RdSt.at {w w' : World} {s : St4} {A : SA} (h : RdSt w s A) (hb : Below w.heap.size w w') : RdSt w' s A := ⟨Rd.at h.st hb, Rd.at h.tp hb, Rd.at h.pr hb⟩
theorem RdSt.old {w w' : World} {s : St4} {A : SA} (h : RdSt w s A) (ho : OldB [] w w') : RdSt w' s A := ⟨Rd.oldB h.st ho (by simp), Rd.oldB h.tp ho (by simp), Rd.oldB h.pr ho (by simp)⟩
def LenI (s : St4) : Prop := s.store.length ≤ 9223372036854775807 ∧ s.tape.length ≤ 9223372036854775807 ∧ s.printed.length ≤ 9223372036854775807
theorem chk_1 {s : St4} (h : s.store.length ≠ 128 ∨ 200 < s.tape.length ∨ 200 < s.printed.length) : chk4 s = (1, 0, 3) := by unfold chk4; rw [if_pos h]
theorem chk_2 {s : St4} (h : ¬ (s.store.length ≠ 128 ∨ 200 < s.tape.length ∨ 200 < s.printed.length)) (g : 0 ≤ oddI s.store) : chk4 s = (2, oddI s.store, 7) := by unfold chk4; rw [if_neg h, if_pos g]
theorem chk_3 {s : St4} (h : ¬ (s.store.length ≠ 128 ∨ 200 < s.tape.length ∨ 200 < s.printed.length)) (g : ¬ 0 ≤ oddI s.store) (g2 : 0 ≤ oddI s.tape) : chk4 s = (3, oddI s.tape, 7) := by unfold chk4; rw [if_neg h, if_neg g, if_pos g2]
theorem chk_4 {s : St4} (h : ¬ (s.store.length ≠ 128 ∨ 200 < s.tape.length ∨ 200 < s.printed.length)) (g : ¬ 0 ≤ oddI s.store) (g2 : ¬ 0 ≤ oddI s.tape) (g3 : 0 ≤ oddI s.printed) : chk4 s = (4, oddI s.printed, 7) := by unfold chk4; rw [if_neg h, if_neg g, if_neg g2, if_pos g3]
def numB (s : St4) : Bool := !inI s.taken 0 s.tape.length || !inI s.time 0 1000000000 || !addrB s.pc || !inI s.done 0 s.time || !inI s.why 0 4
theorem chk_5 {s : St4} (h : ¬ (s.store.length ≠ 128 ∨ 200 < s.tape.length ∨ 200 < s.printed.length)) (g : ¬ 0 ≤ oddI s.store) (g2 : ¬ 0 ≤ oddI s.tape) (g3 : ¬ 0 ≤ oddI s.printed) (g4 : numB s = true) : chk4 s = (5, 0, 7) := by
  unfold chk4; rw [if_neg h, if_neg g, if_neg g2, if_neg g3, if_pos]; unfold numB at g4
  simp only [Bool.or_eq_true, Bool.not_eq_true'] at g4
  rcases g4 with (((h1 | h1) | h1) | h1) | h1
  · exact .inl h1
  · exact .inr (.inl h1)
  · exact .inr (.inr (.inl h1))
  · exact .inr (.inr (.inr (.inl h1)))
  · exact .inr (.inr (.inr (.inr h1)))
theorem num_of {s : St4} (g4 : numB s = false) : (0 ≤ s.taken ∧ s.taken ≤ s.tape.length) ∧ (0 ≤ s.time ∧ s.time ≤ 1000000000) ∧ (0 ≤ s.pc ∧ s.pc ≤ 127) ∧ (0 ≤ s.done ∧ s.done ≤ s.time) ∧ (0 ≤ s.why ∧ s.why ≤ 4) := by
  unfold numB at g4
  simp only [Bool.or_eq_false_iff, Bool.not_eq_false', addrB, inI_iff] at g4
  exact ⟨g4.1.1.1.1, g4.1.1.1.2, g4.1.1.2, g4.1.2, g4.2⟩
theorem chk_6 {s : St4} (h : ¬ (s.store.length ≠ 128 ∨ 200 < s.tape.length ∨ 200 < s.printed.length)) (g : ¬ 0 ≤ oddI s.store) (g2 : ¬ 0 ≤ oddI s.tape) (g3 : ¬ 0 ≤ oddI s.printed) (g4 : numB s = false) : chk4 s = if s.time % 16 ≠ s.pc % 16 then (6, 0, 2) else (0, 0, 0) := by
  unfold chk4; rw [if_neg h, if_neg g, if_neg g2, if_neg g3, if_neg]; unfold numB at g4
  simp only [Bool.or_eq_false_iff, Bool.not_eq_false'] at g4
  simp [g4]

set_option maxRecDepth 100000 in
set_option maxHeartbeats 1000000 in
theorem rints_any (al : Option Addr) (cl : Nat) (l : List Int) (am : Option Addr) (cm : Nat) (m : List Int) (w : World) (hRl : RdInts w al l) (hRm : RdInts w am m) (hll : l.length ≤ 9223372036854775807) (hlm : m.length ≤ 9223372036854775807) :
    Calls Tryz.prog 29 #[.slice al l.length cl, .slice am m.length cm] w (fun e w' => e = .returned (.bool (decide (l = m))) ∧ Below w.heap.size w w') := by
 have HRl := hid hRl; have HRm := hid hRm; clear hRl hRm
 refine enter_F Tryz.func29 rfl Tryz.ntmps29 (by simp) ?_
 intro s0 hs; have sl0 : s0 0 = .slice al l.length cl := hs 0 (by simp); have sl1 : s0 1 = .slice am m.length cm := hs 1 (by simp); clear hs; have HB := hid (OldB.refl [] w)
 repeat ((fail_if_success refine stp ?_); with_reducible go_step)
 refine region_F ?_; refine pl ?_; refine listF_abs (fun s1 z' => ?_); replace sl0 := gs 0 z' sl0; replace sl1 := gs 1 z' sl1; clear z'; refine listF_nil ?_
 repeat ((fail_if_success refine stp ?_); with_reducible go_step)
 refine region_F ?_
 iterate 5 refine pl ?_
 refine listF_abs (fun s2 z' => ?_); replace sl0 := gs 0 z' sl0; replace sl1 := gs 1 z' sl1; have sl10 := gu 10 z'; clear z'; refine listF_nil ?_
 repeat ((fail_if_success refine stp ?_); with_reducible go_step)
 refine cond_E sl10 (by decide) ?_ ?_ <;> (clear sl10; intro h10 sl10)
 ·skip
  have Hf := hid (show decide (l = m) = false from decide_eq_false (fun e => by have h := h10; rw [e] at h; simp at h))
  repeat ((fail_if_success refine stp ?_); with_reducible go_step)
  refine region_F ?_; refine pl ?_; refine listF_abs (fun s3 z' => ?_); have sl4 := gu 4 z'; clear z' sl0 sl1 sl10; refine listF_nil ?_
  repeat ((fail_if_success refine stp ?_); with_reducible go_step)
  refine ret_F _ (res_t Tryz.results29 ((getD_F (by decide)).trans sl4)) ?_; exact ⟨ret_bool Hf.out.symm, HB.out.toBelow⟩
 ·skip
  have hlen : (l.length : Int) = m.length := by have h := h10; simp at h; omega
  have Hlen := hid (show l.length = m.length by omega); clear hlen
  repeat ((fail_if_success refine stp ?_); with_reducible go_step)
  refine region_F ?_; refine pl ?_; refine listF_abs (fun s4 z' => ?_); replace sl0 := gs 0 z' sl0; replace sl1 := gs 1 z' sl1; have sl5 := gu 5 z'; clear z' sl10; refine listF_nil ?_
  repeat ((fail_if_success refine stp ?_); with_reducible go_step)
  have hc0_0 := hid sl0; have hc0_1 := hid sl1; refine loop_F (n := 26) (fun kJ sJ wJ => ∃ (i : Nat), kJ = l.length - i ∧ sJ 5 = .int .i64 (i : Int) ∧ sJ 0 = s4 0 ∧ sJ 1 = s4 1 ∧ OldB [] w wJ ∧ i ≤ l.length ∧ Hid (l.take i = m.take i)) ⟨0, rfl, (by first | exact sl5 | (rw [sl5]; go_num) | (rw [sl5]; rfl)), rfl, rfl, OldB.refl _ _, Nat.zero_le _, hid rfl⟩ ?_; clear sl5; rintro kJ s5 w6 ⟨i, rfl, sl5, e0, e1, hb7, hil, Htk⟩; replace sl0 := e0.trans sl0; clear e0; replace sl1 := e1.trans sl1; clear e1; have hoJ := hb7; replace HB := hid (HB.out.more hb7 (by simp; try omega)); clear hb7; have HoJ := hid hoJ; clear hoJ; have HL8 := HoJ; clear HoJ
  repeat ((fail_if_success refine stp ?_); with_reducible go_step)
  refine region_F ?_
  iterate 4 refine pl ?_
  refine listF_abs (fun s9 z' => ?_); replace sl0 := gs 0 z' sl0; replace sl1 := gs 1 z' sl1; replace sl5 := gs 5 z' sl5; have sl14 := gu 14 z'; clear z'; refine listF_nil ?_
  repeat ((fail_if_success refine stp ?_); with_reducible go_step)
  refine cond_E sl14 (by decide) ?_ ?_ <;> (clear sl14; intro h14 sl14)
  ·skip
   have hi : i < l.length := by simpa using h14
   have hii : (i : Int) < l.length := by omega
   have hi2 : i < m.length := by have := Hlen.out; omega
   have hii2 : (i : Int) < m.length := by omega
   obtain ⟨bl, ol, hal, hbl, c0⟩ := RdInts.ne (Rd.oldB HRl.out HB.out (by simp)) hi; subst hal; obtain ⟨bm, om, ham, hbm, d0⟩ := RdInts.ne (Rd.oldB HRm.out HB.out (by simp)) hi2; subst ham; obtain ⟨y, hy⟩ : ∃ z, l[i] = z := ⟨_, rfl⟩; obtain ⟨z, hz⟩ : ∃ z, m[i] = z := ⟨_, rfl⟩; rw [hy] at c0; rw [hz] at d0; have Hy := hid hy; have Hz := hid hz; clear hy hz
   repeat ((fail_if_success refine stp ?_); with_reducible go_step)
   refine regionR_F [] [] [] [.q [], .q [], .q [], .q [], .q [], .q [], .q [], .q []] [?v1_0, ?v1_1, ?v1_2, ?v1_3, ?v1_4, ?v1_5, ?v1_6, ?v1_7] [fun _ => [], fun _ => [], fun _ => [], fun _ => [], fun _ => [], fun _ => [], fun _ => [], fun _ => []] (by kernel_rfl) (by kernel_rfl) (by kernel_rfl) (by kernel_rfl) (by kernel_rfl) (by first | exact List.nodup_nil | exact List.nodup_singleton _ | (simp; done) | (simp; omega)) bc_nil ?walk1 ?dep1
   case walk1 =>
    iterate 8 refine rq ?_
    refine walkR_nil (fun X hX w10 hwz hcz => ?_); clear hX hcz
    (try clear X)
    skip; have hb11 := hwz.unDrew; clear hwz; replace HL8 := hid (HL8.out.more hb11 (by simp; try omega)); replace HB := hid (HB.out.more hb11 (by simp; try omega)); clear hb11; refine pl ?_; refine listF_abs (fun s12 z' => ?_); replace sl0 := gs 0 z' sl0; replace sl1 := gs 1 z' sl1; replace sl5 := gs 5 z' sl5; have sl25 := gu 25 z'; clear z' sl14; refine listF_nil ?_
    repeat ((fail_if_success refine stp ?_); with_reducible go_step)
    refine cond_E sl25 (by decide) ?_ ?_ <;> (clear sl25; intro h25 sl25)
    ·skip
     have Hf := hid (show decide (l = m) = false from decide_eq_false (fun e => by subst e; have h := h25; rw [← Hy.out, ← Hz.out] at h; simp at h))
     repeat ((fail_if_success refine stp ?_); with_reducible go_step)
     refine region_F ?_; refine pl ?_; refine listF_abs (fun s13 z' => ?_); have sl4 := gu 4 z'; clear z' sl0 sl1 sl5 sl25; refine listF_nil ?_
     repeat ((fail_if_success refine stp ?_); with_reducible go_step)
     refine ret_F _ (res_t Tryz.results29 ((getD_F (by decide)).trans sl4)) ?_; exact ⟨ret_bool Hf.out.symm, HB.out.toBelow⟩
    ·skip
     have hyz : y = z := by have h := h25; simp at h; exact h
     repeat ((fail_if_success refine stp ?_); with_reducible go_step)
     refine region_F ?_
     iterate 3 refine pl ?_
     refine listF_abs (fun s14 z' => ?_); replace sl0 := gs 0 z' sl0; replace sl1 := gs 1 z' sl1; replace sl5 := gu 5 z'; clear z' sl25; refine listF_nil ?_
     repeat ((fail_if_success refine stp ?_); with_reducible go_step)
     refine ⟨_, _, rfl, ?_, i + 1, rfl, (by first | (with_reducible exact sl5) | (rw [sl5]; (with_reducible go_num); done) | (rw [sl5, IntWalk.i64_in] <;> first | ((with_reducible go_num); done) | omega) | (rw [sl5]; go_num; done) | (rw [sl5]; simp; done) | (rw [sl5]; simp; omega)), (sl0.trans hc0_0.out.symm), (sl1.trans hc0_1.out.symm), HL8.out, by omega, hid (take_more hi hi2 Htk.out (by rw [Hy.out, Hz.out, hyz]))⟩
     omega
   case dep1 =>
     iterate 8 refine dR ?_
     exact depR_nil
  ·skip
   have hi : i = l.length := by have h := h14; simp at h; omega
   have Hf := hid (show decide (l = m) = true from decide_eq_true (by have h1 := Htk.out; rw [hi, List.take_length, Hlen.out, List.take_length] at h1; exact h1))
   repeat ((fail_if_success refine stp ?_); with_reducible go_step)
   clear HL8; clear hc0_0 hc0_1; refine region_F ?_; refine pl ?_; refine listF_abs (fun s15 z' => ?_); have sl4 := gu 4 z'; clear z' sl0 sl1 sl5 sl14; refine listF_nil ?_
   repeat ((fail_if_success refine stp ?_); with_reducible go_step)
   refine ret_F _ (res_t Tryz.results29 ((getD_F (by decide)).trans sl4)) ?_; exact ⟨ret_bool Hf.out.symm, HB.out.toBelow⟩


theorem st_eq (s t : St4) : s = t ↔ s.store = t.store ∧ s.tape = t.tape ∧ s.taken = t.taken ∧ s.printed = t.printed ∧ s.time = t.time ∧ s.pc = t.pc ∧ s.done = t.done ∧ s.why = t.why := by
  cases s; cases t; simp
end

section
open Go.RowKit


/-- no part of a state lies in a block -/
def SA.free (A : SA) (s : St4) (k : Nat) : Prop := (s.store ≠ [] → ∀ b, A.sa = some b → b.block ≠ k) ∧ (s.tape ≠ [] → ∀ b, A.ta = some b → b.block ≠ k) ∧ (s.printed ≠ [] → ∀ b, A.pa = some b → b.block ≠ k)
theorem oldsetN {Bs : List Nat} {w0 w wX : World} (h : w = wX) (ho : OldB Bs w0 wX := by repeat (first | with_reducible exact OldB.refl _ _ | with_reducible refine OldB.set ?_ (by simp))) : OldB Bs w0 w := by rw [h]; exact ho
theorem info_int : (Tryz.prog.info? 3).map (fun i => (i.zero, i.size, i.bytes)) = some (some (.int .i64 0), 1, 8) := by kernel_rfl
theorem int_one (x : Int) : ∀ u ∈ int1 x, u.oneCell' = true := by intro u hu; simp [int1] at hu; subst hu; rfl
theorem ints_cell {w : World} {g : Nat} {l : List Int} (h : Cells w g (l.flatMap int1)) {i : Nat} (hi : i < l.length) : w.cell? ⟨g, i, none⟩ = some (.int .i64 l[i]) := by
  have := h.2.1 (i * 1 + 0) _ (flat_get int1 1 (fun _ => rfl) l i l[i] (List.getElem?_eq_getElem hi) 0 _ rfl)
  simpa using this
theorem ints_set (x : Int) : ∀ (l : List Int) (i : Nat), (l.flatMap int1).set i (.int .i64 x) = (l.set i x).flatMap int1
  | [], i => by simp
  | y :: l, 0 => by simp
  | y :: l, i + 1 => by
    have ih := ints_set x l i
    simp only [List.set_cons_succ, List.flatMap_cons, int1, List.cons_append, List.nil_append] at *
    rw [ih]
theorem step_why {s : St4} {k : Int} (hw : whyOf s = k) (hk : k ≠ 0) {p tk : Nat} (hp : s.pc = p) (htk : s.taken = tk) : step4 s = ⟨s.store, s.tape, (tk : Int), s.printed, s.time, (p : Int), s.done, k⟩ := by
  unfold step4; rw [if_pos (by rw [hw]; exact hk), hw, ← hp, ← htk]
end

section
open Go.RowKit

section
variable {P : Program} (w : World)
end

section
variable {P : Program} {o : Oper} {n d : Nat} {s : Nat → Value} {w : World} {K' : Value → World → Prop} {α : Type} {f : α → List Value} {m : Nat}
end
end


end Go.Proofs.YtleknidlgmmgbaaGreat
