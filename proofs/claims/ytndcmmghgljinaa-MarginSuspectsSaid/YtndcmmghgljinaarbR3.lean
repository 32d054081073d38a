/- Arguments of the laws, opened: a run's spans. -/
import Derived.Test.YtndcmmghgljinaarbM11
import Derived.Test.YtndcmmghgljinaarbW19
import Derived.Test.YtndcmmghgljinaarbW20
import Derived.Test.YtndcmmghgljinaarbW29
import Derived.Test.YtndcmmghgljinaarbW30
import Derived.Test.YtndcmmghgljinaarbY1
set_option linter.all false
namespace Go.Proofs.Ytndcmmghgljinaa

section
open Go.RowKit


open Go.ChangeShapes Go.WideShapes Go.ChangeAt Go.RowKit Go.Deep
abbrev u32c (x : Int) : List Value := [.int .u32 x]
abbrev RdQ := Rd u32c 1
def U32 (l : List Int) : Prop := ∀ x ∈ l, 0 ≤ x ∧ x ≤ 4294967295
section
variable {H : Type} {enc : TypeId × Value → H} {w : World} {spare : Nat → Bool} {n : Nat}
set_option maxRecDepth 100000 in
theorem open_u32s {base : Nat} {v : Value} {d : DataW H} {p : List MemPlace} (hv : Value.okWide Try.prog w .any base 85 v) (h : DataW.Trod enc Try.prog w 0 spare true 85 v d p) (hlt : ∀ x ∈ p, x.block < w.heap.size) :
    ∃ (l : List Int) (a : Option Addr) (c : Nat), v = .slice a l.length c ∧ RdQ w a l ∧ l.length ≤ 9223372036854775807 ∧ U32 l := by
  obtain ⟨a0, len, cap, rfl⟩ := okWide_slice Try.underlying85 hv; obtain ⟨fuel, hf0⟩ := h; obtain ⟨a, c, l, hj, rj, nj, bj⟩ := open_rows (f := u32c) (m := 1) (ok := fun x : Int => 0 ≤ x ∧ x ≤ 4294967295) Try.underlying85 (by kernel_rfl) (fun n cs' z _ hz => by obtain ⟨k, hk, _, hw⟩ := DataW.trod_int Try.underlying71 hz; exact ⟨k, hk, bounds_u32 hw⟩) (by decide) hf0 (fun q hq => hlt q hq)
  simp [Value.cells] at hj
  obtain ⟨rfl, rfl, rfl⟩ := hj; unfold maxLen at nj; exact ⟨l, a0, cap, rfl, rj, by omega, bj⟩
end
theorem RdQ.ne {w : World} {a : Option Addr} {l : List Int} (h : RdQ w a l) {k : Nat} (hk : k < l.length) :
    ∃ b off, a = some ⟨b, off, none⟩ ∧ b < w.heap.size ∧ w.cell? ⟨b, off + k, none⟩ = some (.int .u32 l[k]) := by
  obtain ⟨b, off, ha, hb, hc⟩ := Rd.ne h hk; exact ⟨b, off, ha, hb, by simpa using hc 0 _ rfl⟩
theorem RdInts.all {w : World} {b off : Nat} {l : List Int} (h : RdInts w (some ⟨b, off, none⟩) l) (k : Nat) (hk : k < l.length) : w.cell? ⟨b, off + k, none⟩ = some (.int .i64 l[k]) := by
  obtain ⟨b', off', ha, _, hc⟩ := RdInts.ne h hk
  cases ha
  exact hc
def GrpV (A : List Span) (U : List Int) (er : Int) (w : World) (e : Ending) (w' : World) : Prop :=
  ∃ a c a' c', e = .returned (.tuple #[.slice a A.length c, .slice a' U.length c', .int .i64 er]) ∧ RdSpans w' a A ∧ RdInts w' a' U ∧ Below w.heap.size w w'
theorem qgroup_v (k : Kd) (a : Option Addr) (c : Nat) (al : Option Addr) (cl : Nat) (l : List Span) (v : Int) (p : Bool) (A : List Span) (U : List Int) (er : Int) (w : World) (hA : grpRes k l v p = (A, U, er)) (hN : -9223372036854775808 ≤ k.new ∧ k.new ≤ 9223372036854775807) (hsl : k.steps.length ≤ 9223372036854775807) (hR : RdSteps w a k.steps) (hRl : RdSpans w al l) (hll : l.length ≤ 9223372036854775807) :
    Calls Try.prog 31 #[.agg #[.int .i64 k.new, .int .i64 k.wear.lo, .int .i64 k.wear.hi, .slice a k.steps.length c], .slice al l.length cl, .int .i64 v, .bool p] w (GrpV A U er w) := by
  have h : Calls Try.prog 31 #[.agg #[.int .i64 k.new, .int .i64 k.wear.lo, .int .i64 k.wear.hi, .slice a k.steps.length c], .slice al l.length cl, .int .i64 v, .bool p] w (GrpRes k l v p w) := by
    cases p
    · exact qgroup_false k a c al cl l v w hN hsl hR hRl hll
    · exact qgroup_true k a c al cl l v w hN hsl hR hRl hll
  refine h.mono ?_; rintro e w' ⟨a1, c1, a2, c2, h1, h2, h3, h4, _, _⟩; rw [hA] at h1 h2 h3; exact ⟨a1, c1, a2, c2, h1, h2, h3, h4⟩
theorem rgroup_v (k : Kd) (a : Option Addr) (c : Nat) (al : Option Addr) (cl : Nat) (l : List Span) (v : Int) (p : Bool) (A : List Span) (U : List Int) (er : Int) (w : World) (hA : grpRes k l v p = (A, U, er)) (hsl : k.steps.length ≤ 9223372036854775807) (hR : RdSteps w a k.steps) (hRl : RdSpans w al l) (hll : l.length ≤ 9223372036854775807) :
    Calls Try.prog 32 #[.agg #[.int .i64 k.new, .int .i64 k.wear.lo, .int .i64 k.wear.hi, .slice a k.steps.length c], .slice al l.length cl, .int .i64 v, .bool p] w (GrpV A U er w) := by
  have h : Calls Try.prog 32 #[.agg #[.int .i64 k.new, .int .i64 k.wear.lo, .int .i64 k.wear.hi, .slice a k.steps.length c], .slice al l.length cl, .int .i64 v, .bool p] w (GrpRes k l v p w) := by
    cases p
    · exact rgroup_false k a c al cl l v w hsl hR hRl hll
    · exact rgroup_true k a c al cl l v w hsl hR hRl hll
  refine h.mono ?_; rintro e w' ⟨a1, c1, a2, c2, h1, h2, h3, h4, _, _⟩; rw [hA] at h1 h2 h3; exact ⟨a1, c1, a2, c2, h1, h2, h3, h4⟩
theorem grp_zero {k : Kd} {l : List Span} {v : Int} {p : Bool} {A : List Span} {U : List Int} {er : Int} (hA : grpRes k l v p = (A, U, er)) (he : ¬ er = 0) : A = [] ∧ U = [] := by
  unfold grpRes at hA
  split at hA
  · cases hA; exact ⟨rfl, rfl⟩
  · split at hA
    · cases hA; exact ⟨rfl, rfl⟩
    · cases hA; exact absurd rfl he
/-- what a group's answer says -/
structure GOk (k : Kd) (l : List Span) (v : Int) (p : Bool) (A : List Span) (U : List Int) : Prop where
  kk : KOk k
  vv : voltOk k v = true
  len : l.length ≤ 12
  al : A.length = l.length
  sp : ∀ i (h : i < l.length), (0 ≤ l[i].lo ∧ l[i].lo ≤ 1000000) ∧ (0 ≤ l[i].hi ∧ l[i].hi ≤ 1000000) ∧ l[i].lo ≤ l[i].hi
  up : p = true → U.length = 0
  un : p = false → 0 < U.length
  at_ : ∀ i (h : i < U.length), ∃ j : Nat, U[i] = (j : Int) ∧ j < A.length
  asc : ∀ i (h : i < U.length) (h' : i + 1 < U.length), U[i] < U[i + 1]
  one : U.length = 1 → ∀ (h : 0 < U.length) (j : Nat), U[0] = (j : Int) → ∀ h : j < A.length, A[j].hi < needed k v
  ul : U.length ≤ 9223372036854775807
  has : p = false → ∀ j : Nat, j < l.length → (l.getD j Span.zero).lo < needed k v → (j : Int) ∈ U
  inn : ∀ x : Nat → Int, (∀ j, j < l.length → (l.getD j Span.zero).lo ≤ x j ∧ x j ≤ (l.getD j Span.zero).hi) → (p = true ↔ belUp (needed k v) x l.length = 0) → inUp A x l.length = true
theorem gok_of {k : Kd} {l : List Span} {v : Int} {p : Bool} {A : List Span} {U : List Int} (hA : grpRes k l v p = (A, U, 0)) : GOk k l v p A U := by
  obtain ⟨h1, h2, h3, h4, h5, h6⟩ := grp_okS (show (grpRes k l v p).2.2 = 0 by rw [hA]); rw [hA] at h6
  obtain ⟨rfl, rfl, -⟩ : A = aftOf k l v p ∧ U = susOf k l v p ∧ True := by cases h6; exact ⟨rfl, rfl, trivial⟩
  have eU : p = false → susOf k l v p = susUp (needed k v) l l.length := by intro e; unfold susOf; rw [e]; rfl
  have eU2 : ∀ i (h : i < (susOf k l v p).length), p = false := by
    intro i h
    cases p
    · rfl
    · exact absurd h (by unfold susOf; simp)
  refine ⟨h1, h2, h3, aft_lenS, fun i h => spErr_in (h4 i h), ?_, ?_, ?_, ?_, ?_, by have := susUp_len (needed k v) l l.length; unfold susOf; split <;> simp <;> omega, ?_, fun x hx hp => grp_in hx hp⟩
  · intro e; unfold susOf; rw [e]; rfl
  · intro e
    rw [eU e]; unfold grpDown at h5; rw [e] at h5
    simp only [Bool.false_eq_true, if_false] at h5
    cases hs : susUp (needed k v) l l.length with
    | nil => rw [hs] at h5; cases h5
    | cons _ _ => simp
  · intro i h
    have hp := eU2 i h
    simp only [eU hp] at h ⊢
    obtain ⟨j, g1, g2, _⟩ := susUp_get h; exact ⟨j, g1, by rw [aft_lenS]; exact g2⟩
  · intro i h h'
    have hp := eU2 i h
    simp only [eU hp] at h h' ⊢
    exact (List.pairwise_iff_getElem.1 (susUp_asc (need := needed k v) (l := l) (n := l.length))) i (i + 1) h h' (by omega)
  · intro hl h j hj hja
    have hp := eU2 0 h; subst hp
    obtain ⟨x, hx⟩ : ∃ x, susOf k l v false = [x] := by
      cases hs : susOf k l v false with
      | nil => rw [hs] at hl; cases hl
      | cons x t =>
        rw [hs] at hl; have : t = [] := List.length_eq_zero_iff.1 (by simpa using hl); subst this; exact ⟨x, rfl⟩
    obtain ⟨q, e1, e2, e3⟩ := aft_only hx
    have e4 : (susOf k l v false)[0] = x := by simp only [hx]; rfl
    have e5 : q = j := by have : (q : Int) = (j : Int) := by rw [← e1, ← e4]; exact hj
                          omega
    subst e5; rw [getD_get hja] at e3; exact e3
  · intro hp j hj hlt
    rw [eU hp]; exact susUp_has hj hlt
/-- the strengths that numbers give -/
def strQ (l : List Span) (y : List Int) (i : Nat) : Int := (l.getD i Span.zero).lo + (y.getD (i % y.length) 0) % ((l.getD i Span.zero).hi - (l.getD i Span.zero).lo + 1)
theorem strQ_in {l : List Span} {y : List Int} {i : Nat} (hi : i < l.length) (hl : l[i].lo ≤ l[i].hi) : (l.getD i Span.zero).lo ≤ strQ l y i ∧ strQ l y i ≤ (l.getD i Span.zero).hi := by
  unfold strQ; rw [getD_get hi]; have h1 := Int.emod_nonneg (y.getD (i % y.length) 0) (b := l[i].hi - l[i].lo + 1) (by omega); have h2 := Int.emod_lt_of_pos (y.getD (i % y.length) 0) (b := l[i].hi - l[i].lo + 1) (by omega)
  omega
/-- whether a valve is among the first suspects -/
def thUp (U : List Int) (x : Int) : Nat → Bool
  | 0 => false
  | n + 1 => thUp U x n || decide (U.getD n 0 = x)
theorem thUp_has {U : List Int} {x : Int} : ∀ {n : Nat}, thUp U x n = true ↔ ∃ i, i < n ∧ U.getD i 0 = x
  | 0 => by simp [thUp]
  | n + 1 => by
    unfold thUp; rw [Bool.or_eq_true, thUp_has (n := n), decide_eq_true_eq]
    constructor
    · rintro (⟨i, h1, h2⟩ | h)
      · exact ⟨i, by omega, h2⟩
      · exact ⟨n, by omega, h⟩
    · rintro ⟨i, h1, h2⟩
      rcases Nat.lt_or_ge i n with h | h
      · exact .inl ⟨i, h, h2⟩
      · have : i = n := by omega
        subst this; exact .inr h2
theorem thUp_all {U : List Int} {x : Int} (h : x ∈ U) : thUp U x U.length = true := by
  obtain ⟨i, h1, h2⟩ := List.mem_iff_getElem.1 h; exact thUp_has.2 ⟨i, h1, by rw [getD_get h1]; exact h2⟩
end

section
open Go.RowKit


open Go.ChangeShapes Go.WideShapes Go.ChangeAt Go.RowKit Go.Deep
section
variable {H : Type} {enc : TypeId × Value → H} {w : World} {spare : Nat → Bool} {n : Nat}
set_option maxRecDepth 100000 in
theorem open_tested {base : Nat} {v : Value} {d : DataW H} {p : List MemPlace} (hv : Value.okWide Try.prog w .any base 46 v) (h : DataW.Trod enc Try.prog w 0 spare true 46 v d p) (hlt : ∀ x ∈ p, x.block < w.heap.size) :
    ∃ (l : List Span) (a : Option Addr) (c : Nat) (u : Int) (b : Bool), v = .agg #[.slice a l.length c, .int .i64 u, .bool b] ∧ RdSpans w a l ∧ l.length ≤ 9223372036854775807 := by
  obtain ⟨cs0, rfl, hsz⟩ := okWide_struct Try.underlying46 hv; obtain ⟨fuel, hf0⟩ := h; have e : Value.cells (.agg cs0) = cs0 := rfl; rw [e] at hf0; obtain ⟨xs, n', _, hxe, hlen, hx, hf⟩ := DataW.trod_struct Try.underlying46 hf0; have hl : cs0.toList.length = 3 := hlen.trans (by kernel_rfl); have hxl : xs.length = 3 := hx.trans (by rfl)
  have ec : Try.prog.cellsOf 3 = 1 := by kernel_rfl
  have eb : Try.prog.cellsOf 4 = 1 := by kernel_rfl
  have es : Try.prog.cellsOf 44 = 1 := by kernel_rfl
  obtain ⟨cs0⟩ := cs0
  match cs0, hl, xs, hxl with
  | [c0, c1, c2], _, [x0, x1, x2], _ =>
    have h0 := hf 0 _ rfl; obtain ⟨u, hu, _⟩ := fld_int (hf 1 _ rfl) (by simp); obtain ⟨b, hb⟩ := fld_bool (hf 2 _ rfl) (by simp)
    simp [ec, es, eb] at h0 hu hb
    obtain ⟨aj, cj, lj, hj, rj, nj, _⟩ := open_rows (f := Span.cs) (m := 2) (ok := fun _ : Span => True) Try.underlying44 (by kernel_rfl) (fun n cs' z _ hz => (open_span hz).imp fun _ e => ⟨e, trivial⟩) (by decide) h0 (fun q hq => hlt q (by rw [(Prod.mk.inj hxe).2]; simp [hq]))
    simp at hj
    subst hj hu hb; unfold maxLen at nj; exact ⟨lj, aj, cj, u, b, rfl, rj, by omega⟩
end
end


end Go.Proofs.Ytndcmmghgljinaa
