/- What a proof's pairs say: plain Lean. -/
import Derived.Test.YtigehmghcafblaalaB1
import Derived.WideKeyPair
import Derived.Shelf.SlSortCmp.WholeK
set_option linter.all false
namespace Go.Proofs.Ytigehmghcafblaa

section
set_option linter.all false
section
variable (it : Nat → Int)
/-- at z goes the last pair of a and y from -/
def atZ (a y z : Nat) : Bool := decide (it z = it y) && decide (Dv it a z + Rv it z y = Dv it a y)
def fstZ (a y : Nat) : Nat := a + ((List.range (y - a)).find? fun j => atZ it a y (a + j)).getD 0
/-- the pairs of two events (b), and those within a pair, k calls deep -/
def prs : Nat → Bool → Nat → Nat → List (Nat × Nat)
  | 0, _, _, _ => []
  | k + 1, true, a, y => if a = y then [] else if Dv it a y = Dv it a (y - 1) + 1 then prs k true a (y - 1) else prs k true a (fstZ it a y) ++ (fstZ it a y, y) :: prs k false (fstZ it a y) y
  | k + 1, false, z, y => if (innV it z y).2 < 0 then prs k true z (y - 1) else prs k true z (innV it z y).2.toNat ++ ((innV it z y).2.toNat, y) :: prs k false (innV it z y).2.toNat y
end
section
variable {it : Nat → Int}
theorem fstZ_ok {a y : Nat} (h : a < y) (hn : ¬ Dv it a y = Dv it a (y - 1) + 1) : a ≤ fstZ it a y ∧ fstZ it a y < y ∧ atZ it a y (fstZ it a y) = true ∧ ∀ z, a ≤ z → z < fstZ it a y → atZ it a y z = false := by
  have hex : ∃ z, a ≤ z ∧ z < y ∧ atZ it a y z = true := by
    have he := Dv_eq (it := it) h
    rcases maxB_at (sm := fun z => decide (it z = it y)) (f := fun z => Dv it a z + Rv it z y) (n0 := Dv it a (y - 1) + 1) (a := a) (y - a) with h1 | ⟨z, h2, h3, h4, h5⟩
    · exact absurd (he.trans h1) hn
    · refine ⟨z, h2, by omega, ?_⟩
      simp only [atZ, Bool.and_eq_true, decide_eq_true_eq]
      exact ⟨by simpa using h4, by rw [he, h5]⟩
  obtain ⟨z, h1, h2, h3⟩ := hex
  unfold fstZ
  cases hf : (List.range (y - a)).find? fun j => atZ it a y (a + j) with
  | none =>
    rw [List.find?_eq_none] at hf
    have := hf (z - a) (by simp; omega)
    rw [show a + (z - a) = z by omega] at this
    exact absurd h3 this
  | some j =>
    rw [List.find?_range_eq_some] at hf
    obtain ⟨g1, g2, g3⟩ := hf
    simp only [Option.getD_some]
    refine ⟨by omega, by simp at g2; omega, g1, fun z hz1 hz2 => ?_⟩
    have := g3 (z - a) (by omega)
    rw [show a + (z - a) = z by omega] at this
    simpa using this
theorem innV_from {z y : Nat} (h : ¬ (innV it z y).2 < 0) : z < (innV it z y).2.toNat ∧ (innV it z y).2.toNat < y ∧ it (innV it z y).2.toNat = it y ∧ (innV it z y).2 = ((innV it z y).2.toNat : Int) := by
  rcases innB_from (sm := fun w => decide (it w = it y)) (f := fun w => Dv it z w + Rv it w y) (n0 := Dv it z (y - 1) + 1) (z := z) (y - 1 - z) with h1 | ⟨w, h1, h2, h3, h4⟩
  · exact absurd (show (innV it z y).2 < 0 by unfold innV; omega) h
  · have e : (innV it z y).2 = (w : Int) := h1
    rw [e]
    exact ⟨by simpa using h2, by simp; omega, by simpa using h4, by simp⟩
/-- how deep the calls go -/
def prD (b : Bool) (a y : Nat) : Nat := 2 * (y - a) + (if b then 1 else 0)
/-- pairs are of like events, and within what is asked for -/
theorem prs_ok : ∀ k b a y, a ≤ y → (b = false → a < y ∧ it a = it y) → ∀ p ∈ prs it k b a y, a ≤ p.1 ∧ p.1 < p.2 ∧ p.2 ≤ y ∧ it p.1 = it p.2
  | 0, _, _, _, _, _, p, hp => by simp [prs] at hp
  | k + 1, true, a, y, h, _, p, hp => by
    simp only [prs] at hp
    split at hp
    · simp at hp
    split at hp
    · rename_i h1 _
      have := prs_ok k true a (y - 1) (by omega) (fun h => by cases h) p hp
      exact ⟨this.1, this.2.1, by omega, this.2.2.2⟩
    · rename_i h1 h2
      obtain ⟨g1, g2, g3, g4⟩ := fstZ_ok (it := it) (a := a) (y := y) (by omega) h2
      have g5 : it (fstZ it a y) = it y := by simp only [atZ, Bool.and_eq_true, decide_eq_true_eq] at g3; exact g3.1
      rcases List.mem_append.1 hp with hp | hp
      · have := prs_ok k true a _ g1 (fun h => by cases h) p hp
        exact ⟨this.1, this.2.1, by omega, this.2.2.2⟩
      · rcases List.mem_cons.1 hp with rfl | hp
        · exact ⟨g1, g2, Nat.le_refl _, g5⟩
        · have := prs_ok k false _ y (by omega) (fun _ => ⟨g2, g5⟩) p hp
          exact ⟨by omega, this.2.1, by omega, this.2.2.2⟩
  | k + 1, false, z, y, h, hb, p, hp => by
    have hb := hb rfl
    simp only [prs] at hp
    split at hp
    · have := prs_ok k true z (y - 1) (by omega) (fun h => by cases h) p hp
      exact ⟨this.1, this.2.1, by omega, this.2.2.2⟩
    · rename_i h2
      obtain ⟨g1, g2, g3, g4⟩ := innV_from h2
      rcases List.mem_append.1 hp with hp | hp
      · have := prs_ok k true z _ (by omega) (fun h => by cases h) p hp
        exact ⟨this.1, this.2.1, by omega, this.2.2.2⟩
      · rcases List.mem_cons.1 hp with rfl | hp
        · exact ⟨by omega, g2, Nat.le_refl _, g3⟩
        · have := prs_ok k false _ y (by omega) (fun _ => ⟨g2, g3⟩) p hp
          exact ⟨by omega, this.2.1, by omega, this.2.2.2⟩
/-- how many -/
theorem prs_len : ∀ k b a y, a ≤ y → (b = false → a < y) → (prs it k b a y).length ≤ 2 * (y - a) - (if b then 1 else 2)
  | 0, _, _, _, _, _ => by simp [prs]
  | k + 1, true, a, y, h, _ => by
    simp only [prs]
    split
    · simp
    split
    · rename_i h1 _
      have := prs_len k true a (y - 1) (by omega) (fun h => by cases h)
      simp only [if_true] at this ⊢; omega
    · rename_i h1 h2
      obtain ⟨g1, g2, _, _⟩ := fstZ_ok (it := it) (a := a) (y := y) (by omega) h2
      have i1 := prs_len k true a (fstZ it a y) g1 (fun h => by cases h)
      have i2 := prs_len k false (fstZ it a y) y (by omega) (fun _ => g2)
      simp only [if_true, Bool.false_eq_true, if_false, List.length_append, List.length_cons] at i1 i2 ⊢; omega
  | k + 1, false, z, y, h, hb => by
    have hb := hb rfl
    simp only [prs]
    split
    · have := prs_len k true z (y - 1) (by omega) (fun h => by cases h)
      simp only [if_true, Bool.false_eq_true, if_false] at this ⊢; omega
    · rename_i h2
      obtain ⟨g1, g2, _, _⟩ := innV_from h2
      have i1 := prs_len k true z (innV it z y).2.toNat (by omega) (fun h => by cases h)
      have i2 := prs_len k false (innV it z y).2.toNat y (by omega) (fun _ => g2)
      simp only [if_true, Bool.false_eq_true, if_false, List.length_append, List.length_cons] at i1 i2 ⊢; omega
/-- all calls that are deep enough give the same -/
theorem prs_fuel : ∀ k k' b a y, a ≤ y → (b = false → a < y) → prD b a y ≤ k → prD b a y ≤ k' → prs it k b a y = prs it k' b a y
  | 0, k', b, a, y, h, hb, h1, h2 => by
    cases b with
    | true => simp [prD] at h1
    | false => have := hb rfl; simp [prD] at h1; omega
  | k + 1, 0, b, a, y, h, hb, h1, h2 => by
    cases b with
    | true => simp [prD] at h2
    | false => have := hb rfl; simp [prD] at h2; omega
  | k + 1, k' + 1, true, a, y, h, _, h1, h2 => by
    simp only [prD, if_true] at h1 h2
    simp only [prs]
    split
    · rfl
    rename_i h3
    split
    · exact prs_fuel k k' true a (y - 1) (by omega) (fun h => by cases h) (by simp only [prD, if_true]; omega) (by simp only [prD, if_true]; omega)
    · rename_i h4
      obtain ⟨g1, g2, _, _⟩ := fstZ_ok (it := it) (a := a) (y := y) (by omega) h4
      rw [prs_fuel k k' true a (fstZ it a y) g1 (fun h => by cases h) (by simp only [prD, if_true]; omega) (by simp only [prD, if_true]; omega),
        prs_fuel k k' false (fstZ it a y) y (by omega) (fun _ => g2) (by simp only [prD, Bool.false_eq_true, if_false]; omega) (by simp only [prD, Bool.false_eq_true, if_false]; omega)]
  | k + 1, k' + 1, false, z, y, h, hb, h1, h2 => by
    have hb := hb rfl
    simp only [prD, Bool.false_eq_true, if_false] at h1 h2
    simp only [prs]
    split
    · exact prs_fuel k k' true z (y - 1) (by omega) (fun h => by cases h) (by simp only [prD, if_true]; omega) (by simp only [prD, if_true]; omega)
    · rename_i h4
      obtain ⟨g1, g2, _, _⟩ := innV_from h4
      rw [prs_fuel k k' true z _ (by omega) (fun h => by cases h) (by simp only [prD, if_true]; omega) (by simp only [prD, if_true]; omega),
        prs_fuel k k' false _ y (by omega) (fun _ => g2) (by simp only [prD, Bool.false_eq_true, if_false]; omega) (by simp only [prD, Bool.false_eq_true, if_false]; omega)]
end
end

section
set_option linter.all false
set_option pp.maxSteps 100000
set_option maxRecDepth 100000
set_option maxHeartbeats 4000000
open Go.RowKit

/- maps -/
theorem arrK : WideMaps.ArrKey Try.prog 65 3 2 := ⟨Try.underlying65, by kernel_rfl, by kernel_rfl, by kernel_rfl⟩
theorem KA : Maps.Keyed Try.prog 65 := Maps.Keyed.of_law arrK.law
theorem KT : ∃ m, Try.prog.types.size = m + 1 := ⟨Try.prog.types.size - 1, by kernel_rfl⟩
abbrev kv2 (p : Int × Int) : Value := .agg #[.int .i64 p.1, .int .i64 p.2]
theorem kv2_inj (x y : Int × Int) (h : kv2 x = kv2 y) : x = y := by
  simp only [kv2, Value.agg.injEq] at h
  have h := congrArg Array.toList h
  simp at h
  exact Prod.ext h.1 h.2
theorem wfI {a : Int} (h : -9223372036854775808 ≤ a ∧ a ≤ 9223372036854775807) : (Lit.int .i64 a).wf = true := by
  simp [Lit.wf, IntKind.min, IntKind.max, IntKind.bits, IntKind.signed]; omega
theorem key2 {a b : Int} (ha : -9223372036854775808 ≤ a ∧ a ≤ 9223372036854775807) (hb : -9223372036854775808 ≤ b ∧ b ≤ 9223372036854775807) : ∃ kl, keyOf Try.prog 65 (kv2 (a, b)) = some kl :=
  ⟨_, WideMaps.keyOf_pair arrK Try.underlying3 KT (wfI ha) (wfI hb)⟩
/-- block b is a map of at most k entries; at the key of two numbers lies φ of them, or nothing for 0 -/
def MapI (w : World) (b k : Nat) (φ : Nat → Nat → Int) : Prop := ∃ g, MapV Try.prog 65 kv2 w b k g ∧ ∀ a y : Nat, (g ((a : Int), (y : Int))).getD (.int .i64 0) = .int .i64 (φ a y)
def En.map2 (b k : Nat) (φ : Nat → Nat → Int) : En where
  P S w := S b ∧ MapI w b k φ
  mono h hs := ⟨hs _ h.1, h.2⟩
  loc h hs _ := ⟨h.1, let ⟨g, h1, h2⟩ := h.2; ⟨g, h1.same (hs _ h.1), h2⟩⟩
section
variable {w0 w w' : World} {Bs : List Nat} {n : Nat} {L : List (Nat × Value)} {H H' : List En} {ops : Array Oper} {K : (Nat → Value) → World → Prop} {os : List Oper} {u v : Value} {d b k : Nat} {T ty : TypeId} {pos : String} {af : Array Edge} {gd : Option (Nat × Bool)} {x y z : Operand} {φ φ' : Nat → Nat → Int}
theorem MapI.at (h : MapI w b k φ) (hb : Below w.heap.size w w') : MapI w' b k φ := let ⟨g, h1, h2⟩ := h; ⟨g, h1.at hb, h2⟩
theorem MapI.old (h : MapI w0 b k φ) (hm : Mem w0 Bs H w) (hn : b ∉ Bs := by simp) : MapI w b k φ := let ⟨g, h1, h2⟩ := h; ⟨g, h1.oldB hm.1 hn, h2⟩
theorem Mem.mapI (h : Mem w0 Bs H w) (p : Pick (.map2 b k φ) H H') : MapI w b k φ := by
  obtain ⟨S, hx, _⟩ := (h.pick p).head; exact hx.2
/-- what lies at a key -/
theorem Ex.mg {i j : Nat} (hi : i ≤ 1000) (hj : j ≤ 1000) (hm : ∀ w, Mem w0 Bs H w → ∃ k, MapI w b k φ) (hx : ∀ g, evF n (tab L g) x = .map (some b) := by intro g; simp only [evF_tmp, tab_cons, Nat.reduceLT, Nat.reduceEqDiff, ↓reduceIte]; (try rfl))
    (hy : ∀ g, evF n (tab L g) y = kv2 ((i : Int), (j : Int)) := by intro g; simp only [evF_tmp, tab_cons, Nat.reduceLT, Nat.reduceEqDiff, ↓reduceIte]; (try rfl)) : Ex w0 Bs Try.prog n ⟨some d, .lookup 62 x y false, ty, pos, af, gd⟩ L H (.int .i64 (φ i j)) := fun g w hw => by
  obtain ⟨k, f, h1, h2⟩ := hm w hw
  obtain ⟨kl, hk⟩ := key2 (a := (i : Int)) (b := (j : Int)) (by omega) (by omega)
  have h3 := h1.has KA (T := 62) (E := 3) Try.underlying62 (z := .int .i64 0) (by go_simp) (x := ((i : Int), (j : Int))) hk false
  simp only [execOp, hx g, hy g, Sem.run_bind, h3, Result.andThen_ok, Sem.run_pure, Bool.false_eq_true, if_false, h2]
/-- a new map -/
theorem GoL.mm (hr : ∀ b, GoL w0 Bs Try.prog ops n K os ((d, .map (some b)) :: L) (.map2 b 0 (fun _ _ => 0) :: H)) (hd : d < n := by decide) : GoL w0 Bs Try.prog ops n K (⟨some d, .makeMap 62 none, ty, pos, af, none⟩ :: os) L H :=
  .mk fun g w hw => listF_step rfl fun K' hK => opF_makeMap (κ := Int × Int) (kt := 65) (kv := kv2) rfl hd rfl fun w' h1 h2 => hK _ _ ((hr _).go g w' (hw.new (E := [.map2 w.heap.size 0 fun _ _ => 0]) ⟨h2, fun b => b = w.heap.size, fun b hb => by subst hb; exact ⟨Nat.le_refl _, h1.lt⟩, ⟨rfl, _, h1, fun _ _ => rfl⟩, trivial⟩))
/-- a new value at a key -/
theorem GoL.mu {i j : Nat} {q : Int} (φ' : Nat → Nat → Int) (p : Rep (.map2 b k φ) (.map2 b (k + 1) φ') H H') (hi : i ≤ 1000) (hj : j ≤ 1000) (hk : k ≤ 1000000) (hφ : ∀ a c, φ' a c = if a = i ∧ c = j then q else φ a c) (hr : GoL w0 Bs Try.prog ops n K os L H')
    (hx : ∀ g, evF n (tab L g) x = .map (some b) := by intro g; simp only [evF_tmp, tab_cons, Nat.reduceLT, Nat.reduceEqDiff, ↓reduceIte]; (try rfl))
    (hy : ∀ g, evF n (tab L g) y = kv2 ((i : Int), (j : Int)) := by intro g; simp only [evF_tmp, tab_cons, Nat.reduceLT, Nat.reduceEqDiff, ↓reduceIte]; (try rfl))
    (hz : ∀ g, evF n (tab L g) z = .int .i64 q := by intro g; simp only [evF_tmp, evF_const, tab_cons, Nat.reduceLT, Nat.reduceEqDiff, ↓reduceIte]; (try rfl)) : GoL w0 Bs Try.prog ops n K (⟨none, .mapUpdate 62 x y z, ty, pos, af, none⟩ :: os) L H :=
  .mk fun g w hw => listF_step rfl fun K' hK => by
    obtain ⟨K2, p1, p2⟩ := p.split
    have ⟨f, h1, h2⟩ : MapI w b k φ := by obtain ⟨S, hx, _⟩ := (hw.perm p1).head; exact hx.2
    obtain ⟨kl, hkl⟩ := key2 (a := (i : Int)) (b := (j : Int)) (by omega) (by omega)
    refine opF_put (T := 62) (E := 3) x y z rfl KA Try.underlying62 h1 (by omega) kv2_inj ((i : Int), (j : Int)) (hx g) (hy g) hkl fun w' h3 h4 => hK _ _ (hr.go g w' (hw.rep p fun S hS hlt => ⟨h4.os, h4.tape, h4.output, h4.size, fun c hc hn => h4.block c hc (fun e => hn (by rw [List.mem_singleton.1 e]; exact hS.1)), ⟨⟨.inl hS.1, Nat.lt_of_lt_of_le (hlt _ hS.1) h4.size⟩, _, h3, fun a c => ?_⟩⟩))
    rw [hφ, hz g]
    by_cases e : a = i ∧ c = j
    · rw [if_pos e, if_pos (by rw [e.1, e.2])]; rfl
    · rw [if_neg e, if_neg (fun h => e (by simp only [Prod.mk.injEq] at h; omega)), h2]
end

/- a proof under way -/
structure PR where
  l : List Evt
  ae : Option Addr
  ce : Nat
  bd : Nat
  br : Nat
  idx : Int
abbrev PR.cs (x : PR) (v : Value) : List Value := [.slice x.ae x.l.length x.ce, .map (some x.bd), .map (some x.br), .int .i64 x.idx, v]
abbrev PR.it (x : PR) (i : Nat) : Int := (lx x.l i).item
theorem and_up (N : Nat) (h : N < 2 ^ 64) : N &&& (2 ^ 64 - 16) = N / 16 * 16 := by
  apply Nat.eq_of_testBit_eq
  intro i
  have e1 : (2 ^ 64 - 16 : Nat) = (2 ^ 60 - 1) <<< 4 := by decide
  have e2 : N / 16 * 16 = (N >>> 4) <<< 4 := by rw [Nat.shiftRight_eq_div_pow, Nat.shiftLeft_eq]
  rw [e1, e2, Nat.testBit_and, Nat.testBit_shiftLeft, Nat.testBit_shiftLeft, Nat.testBit_shiftRight, Nat.testBit_two_pow_sub_one]
  by_cases h4 : 4 ≤ i
  · rw [show 4 + (i - 4) = i by omega]
    by_cases h6 : i - 4 < 60
    · simp [h4, h6]
    · have : N.testBit i = false := Nat.testBit_lt_two_pow (Nat.lt_of_lt_of_le h (Nat.pow_le_pow_right (by omega) (by omega)))
      simp [this]
  · simp [h4]
theorem i64_andNot15 (n : Int) (h0 : 0 ≤ n) (h1 : n ≤ 1000000000) : bits .andNot .i64 n 15 = n - n % 16 := by
  show IntKind.i64.wrap ((BitVec.ofInt 64 n &&& ~~~BitVec.ofInt 64 15).toNat : Int) = _
  have h2 : (BitVec.ofInt 64 15).toNat = 15 := by decide
  have h3 : (BitVec.ofInt 64 n).toNat = n.toNat := by rw [BitVec.toNat_ofInt]; omega
  rw [BitVec.toNat_and, BitVec.toNat_not, h2, h3, show 2 ^ 64 - 1 - 15 = 2 ^ 64 - 16 by decide, and_up _ (by omega), IntKind.wrap_i64]
  omega
theorem up_v (n : Int) (w : World) (hb : 0 ≤ n ∧ n ≤ 1000000) : Calls Try.prog 34 #[.int .i64 n] w (fun e w' => e = .returned (.int .i64 (upI n)) ∧ Below w.heap.size w w') := by
  refine go_in Try.func34 rfl Try.ntmps34 [] [] (Mem.start _) ?_
  refine go ?_
  refine ev1 ?_
  rw [i64_andNot15 _ (by omega) (by omega)]
  simp only [upI]; congr 1; omega
/-- what the functions of a proof read -/
structure PR.At (x : PR) (b : Nat) (pv : Value) (φd φr : Nat → Nat → Int) (w : World) : Prop where
  c : Cells w b (x.cs pv)
  e : Rd Evt.cs 2 w x.ae x.l
  d : ∃ k, MapI w x.bd k φd
  r : ∃ k, MapI w x.br k φr
structure BdD (φ : Nat → Nat → Int) : Prop where
  out : ∀ a y, 0 ≤ φ a y ∧ φ a y ≤ 2000
theorem same_v (x : PR) (b : Nat) (pv : Value) (z y : Nat) (w : World) (hc : Cells w b (x.cs pv)) (he : Rd Evt.cs 2 w x.ae x.l) (hz : z < x.l.length) (hy : y < x.l.length) (hl : x.l.length ≤ 100) :
    Calls Try.prog 43 #[.pointer (some ⟨b, 0, none⟩), .int .i64 z, .int .i64 y] w (fun e w' => e = .returned (.bool (decide (x.it z = x.it y))) ∧ Below w.heap.size w w') := by
  refine go_in Try.func43 rfl Try.ntmps43 [] [] (Mem.start _) ?_
  refine go ?_
  refine ev1 ?_
  congr 1
theorem chain_v (x : PR) (b : Nat) (pv : Value) (φd φr : Nat → Nat → Int) (a z y : Nat) (w : World) (hx : x.At b pv φd φr w) (hd : BdD φd) (hr : BdD φr) (ha : a ≤ 100) (hz : z ≤ 100) (hy : y ≤ 100) :
    Calls Try.prog 45 #[.pointer (some ⟨b, 0, none⟩), .int .i64 a, .int .i64 z, .int .i64 y] w (fun e w' => e = .returned (.int .i64 (φd a z + φr z y)) ∧ Below w.heap.size w w') := by
  have hc := hx.c
  have h1 := hd.out a z
  have h2 := hr.out z y
  obtain ⟨kd, hd⟩ := hx.d
  obtain ⟨kr, hr⟩ := hx.r
  refine go_in Try.func45 rfl Try.ntmps45 [] [] (Mem.start _) ?_
  refine go ?_
  refine D.q ⟨_, fun X F => Ex.mg (i := a) (j := z) (by omega) (by omega) (fun w hw => ⟨_, hd.old hw⟩), ?_⟩
  refine go ?_
  refine D.q ⟨_, fun X F => Ex.mg (i := z) (j := y) (by omega) (by omega) (fun w hw => ⟨_, hr.old hw⟩), ?_⟩
  refine go ?_
  exact ev1 rfl
theorem PR.At.old {x : PR} {b : Nat} {pv : Value} {φd φr : Nat → Nat → Int} {w w' : World} {H : List En} (h : x.At b pv φd φr w) (hm : Mem w [] H w') : x.At b pv φd φr w' :=
  ⟨hm.oldC h.c, hm.old h.e, let ⟨k, h⟩ := h.d; ⟨k, h.old hm⟩, let ⟨k, h⟩ := h.r; ⟨k, h.old hm⟩⟩
theorem inner_v (x : PR) (b : Nat) (pv : Value) (φd φr : Nat → Nat → Int) (z y : Nat) (w : World) (hx : x.At b pv φd φr w) (hd : BdD φd) (hr : BdD φr) (hzy : z < y) (hy : y < x.l.length) (hl : x.l.length ≤ 100) :
    Calls Try.prog 44 #[.pointer (some ⟨b, 0, none⟩), .int .i64 z, .int .i64 y] w (fun e w' => e = .returned (.tuple #[.int .i64 (innB (fun v => decide (x.it v = x.it y)) (fun v => φd z v + φr v y) (φd z (y - 1) + 1) z (y - 1 - z)).1, .int .i64 (innB (fun v => decide (x.it v = x.it y)) (fun v => φd z v + φr v y) (φd z (y - 1) + 1) z (y - 1 - z)).2]) ∧ Below w.heap.size w w') := by
  have hc := hx.c
  have h1 := hd.out z (y - 1)
  obtain ⟨kd, hmd⟩ := hx.d
  refine go_in Try.func44 rfl Try.ntmps44 [] [] (Mem.start _) ?_
  refine go ?_
  refine GoL.q ⟨_, Ex.mg (i := z) (j := y - 1) (by omega) (by omega) (fun w hw => ⟨_, hmd.old hw⟩) (hy := by intro g; simp only [evF_tmp, tab_cons, Nat.reduceLT, Nat.reduceEqDiff, ↓reduceIte]; rw [show ((y : Int) - 1) = ((y - 1 : Nat) : Int) by omega]), ?_⟩
  refine go ?_
  refine go_loop (X := Nat) (fun k => z + 1 + k ≤ y) (fun k => y - k) (fun k => [(8, .int .i64 ((z + 1 + k : Nat) : Int)), (6, .int .i64 (innB (fun v => decide (x.it v = x.it y)) (fun v => φd z v + φr v y) (φd z (y - 1) + 1) z k).1), (7, .int .i64 (innB (fun v => decide (x.it v = x.it y)) (fun v => φd z v + φr v y) (φd z (y - 1) + 1) z k).2)]) (fun _ => []) 0 [0, 1, 2] (by omega) (by simp [AgreeL, At, innB]) sb (fun k hk => ?_)
  refine go ?_
  refine go_if (fun h => ?_) (fun h => ?_)
  · have hk2 : z + 1 + k < y := by omega
    refine go ?_
    refine GoL.cv (fun w' hw => same_v x b pv (z + 1 + k) y w' (hw.oldC hc) (hw.old hx.e) (by omega) hy hl) ?_
    refine go ?_
    have hdz := hd.out z (z + 1 + k)
    have hrz := hr.out (z + 1 + k) y
    refine GoL.jk 8 [(38, .bool (decide (x.it (z + 1 + k) = x.it y ∧ (innB (fun v => decide (x.it v = x.it y)) (fun v => φd z v + φr v y) (φd z (y - 1) + 1) z k).1 < φd z (z + 1 + k) + φr (z + 1 + k) y)))] [0, 1, 2, 6, 7, 8] ?_ ?_
    · refine GoL.sp (fun h1 => ?_) (fun h1 => ?_)
      · refine go ?_
        refine GoL.cv (fun w' hw => chain_v x b pv φd φr z (z + 1 + k) y w' (hx.old hw) hd hr (by omega) (by omega) (by omega)) ?_
        refine go ?_
        exact GoL.jd (by simp [AgreeL, At, h1]) sb
      · refine go ?_
        exact GoL.jd (by simp [AgreeL, At, h1]) sb
    refine go ?_
    refine go_if (fun h => ?_) (fun h => ?_)
    · refine go ?_
      refine GoL.cv (fun w' hw => chain_v x b pv φd φr z (z + 1 + k) y w' (hx.old hw) hd hr (by omega) (by omega) (by omega)) ?_
      refine go ?_
      refine go_again (k + 1) ?_ ?_ ?_ sb
      · omega
      · omega
      · simp [AgreeL, At, innB, h]
        try omega
    · refine go ?_
      refine go_again (k + 1) ?_ ?_ ?_ sb
      · omega
      · omega
      · simp [AgreeL, At, innB, h]
        try omega
  · have hk2 : k = y - 1 - z := by omega
    subst hk2
    refine go ?_
    exact ev2 ⟨rfl, rfl⟩
end

section
set_option linter.all false
set_option pp.maxSteps 100000
set_option maxRecDepth 100000
set_option maxHeartbeats 4000000
open Go.RowKit

def dF (it : Nat → Int) (m a y : Nat) : Int := if y < m then Dv it a y else 0
def rF (it : Nat → Int) (m a y : Nat) : Int := if y < m then Rv it a y else 0
/-- .. with the last j of column y -/
def rJ (it : Nat → Int) (y j a y' : Nat) : Int := if y' < y then Rv it a y' else if y' = y ∧ y - j ≤ a then Rv it a y else 0
/-- .. with the first a of column y -/
def dA (it : Nat → Int) (y k a y' : Nat) : Int := if y' < y then Dv it a y' else if y' = y ∧ a < k then Dv it a y else 0
section
variable {it : Nat → Int} {m y j k : Nat}
theorem Dv_bd (h : y < 100) (a : Nat) : 0 ≤ Dv it a y ∧ Dv it a y ≤ 2000 := by
  by_cases h1 : a < y
  · have := (DR_bd (it := it) y).2 a h1; omega
  · rw [Dv_out (by omega)]; omega
theorem Rv_bd (h : y < 100) (a : Nat) : 0 ≤ Rv it a y ∧ Rv it a y ≤ 2000 := by
  by_cases h1 : a < y
  · have := (DR_bd (it := it) y).1 a h1; omega
  · rw [Rv_out (by omega)]; omega
theorem bd_dF (h : m ≤ 100) : BdD (dF it m) := ⟨fun a y => by unfold dF; split; exact Dv_bd (by omega) a; omega⟩
theorem bd_rF (h : m ≤ 100) : BdD (rF it m) := ⟨fun a y => by unfold rF; split; exact Rv_bd (by omega) a; omega⟩
theorem bd_rJ (h : y < 100) : BdD (rJ it y j) := ⟨fun a y' => by unfold rJ; split; exact Rv_bd (by omega) a; split; exact Rv_bd h a; omega⟩
theorem bd_dA (h : y < 100) : BdD (dA it y k) := ⟨fun a y' => by unfold dA; split; exact Dv_bd (by omega) a; split; exact Dv_bd h a; omega⟩
theorem rJ_0 : rJ it y 0 = rF it y := by funext a y'; unfold rJ rF; split; rfl; split; exact Rv_out (by omega); rfl
theorem dA_0 : dA it y 0 = dF it y := by funext a y'; unfold dA dF; split; rfl; rw [if_neg (by omega)]
theorem rJ_y : rJ it y y = rF it (y + 1) := by
  funext a y'; unfold rJ rF
  by_cases h : y' < y
  · rw [if_pos h, if_pos (by omega)]
  · rw [if_neg h]
    by_cases e : y' = y
    · subst e; rw [if_pos ⟨rfl, by omega⟩, if_pos (by omega)]
    · rw [if_neg (fun h => e h.1), if_neg (by omega)]
theorem dA_y : dA it y y = dF it (y + 1) := by
  funext a y'; unfold dA dF
  by_cases h : y' < y
  · rw [if_pos h, if_pos (by omega)]
  · rw [if_neg h]
    by_cases e : y' = y
    · subst e; rw [if_pos (show y' < y' + 1 by omega)]
      by_cases h2 : a < y'
      · rw [if_pos ⟨rfl, h2⟩]
      · rw [if_neg (fun h => h2 h.2), Dv_out (by omega)]
    · rw [if_neg (fun h => e h.1), if_neg (by omega)]
theorem rJ_put (hj : j < y) (a c : Nat) : rJ it y (j + 1) a c = if a = y - 1 - j ∧ c = y then Rv it (y - 1 - j) y else rJ it y j a c := by
  unfold rJ
  by_cases h : a = y - 1 - j ∧ c = y
  · rw [if_pos h, if_neg (by omega), if_pos ⟨h.2, by omega⟩, h.1]
  · rw [if_neg h]
    by_cases h1 : c < y
    · rw [if_pos h1, if_pos h1]
    · rw [if_neg h1, if_neg h1]
      by_cases h2 : c = y ∧ y - j ≤ a
      · rw [if_pos h2, if_pos ⟨h2.1, by omega⟩]
      · rw [if_neg h2, if_neg (by omega)]
theorem dA_put (hk : k < y) (a c : Nat) : dA it y (k + 1) a c = if a = k ∧ c = y then Dv it k y else dA it y k a c := by
  unfold dA
  by_cases h : a = k ∧ c = y
  · rw [if_pos h, if_neg (by omega), if_pos ⟨h.2, by omega⟩, h.1]
  · rw [if_neg h]
    by_cases h1 : c < y
    · rw [if_pos h1, if_pos h1]
    · rw [if_neg h1, if_neg h1]
      by_cases h2 : c = y ∧ a < k
      · rw [if_pos h2, if_pos ⟨h2.1, by omega⟩]
      · rw [if_neg h2, if_neg (by omega)]
theorem rJ_skip (hj : j < y) (h : ¬ it (y - 1 - j) = it y) : rJ it y (j + 1) = rJ it y j := by
  funext a c
  rw [rJ_put hj]
  by_cases h1 : a = y - 1 - j ∧ c = y
  · rw [if_pos h1, Rv_eq (by omega), if_neg h]
    unfold rJ
    rw [if_neg (by omega), if_neg (by omega)]
  · rw [if_neg h1]
theorem inn_eq (hj : j < y) : innB (fun v => decide (it v = it y)) (fun v => dF it y (y - 1 - j) v + rJ it y j v y) (dF it y (y - 1 - j) (y - 1) + 1) (y - 1 - j) (y - 1 - (y - 1 - j)) = innV it (y - 1 - j) y := by
  unfold innV
  rw [show dF it y (y - 1 - j) (y - 1) = Dv it (y - 1 - j) (y - 1) by unfold dF; rw [if_pos (by omega)]]
  refine innB_congr _ fun w h1 h2 => ⟨rfl, fun _ => ?_⟩
  have e1 : dF it y (y - 1 - j) w = Dv it (y - 1 - j) w := by unfold dF; rw [if_pos (by omega)]
  have e2 : rJ it y j w y = Rv it w y := by unfold rJ; rw [if_neg (by omega), if_pos ⟨rfl, by omega⟩]
  rw [e1, e2]
end
theorem MapI.mono {w : World} {b k m : Nat} {φ : Nat → Nat → Int} (h : MapI w b k φ) (hm : k ≤ m) : MapI w b m φ := let ⟨g, h1, h2⟩ := h; ⟨g, h1.mono hm, h2⟩
theorem Mem.mapUp {w0 w : World} {Bs : List Nat} {H H' : List En} {b k m : Nat} {φ : Nat → Nat → Int} (h : Mem w0 Bs H w) (p : Rep (.map2 b k φ) (.map2 b m φ) H H') (hm : k ≤ m := by omega) : Mem w0 Bs H' w := h.to p fun S hS => ⟨hS.1, hS.2.mono hm⟩
abbrev prvE (l : List Evt) (ae : Option Addr) (ce : Nat) (idx : Int) (m : Nat) (p : Nat × Nat × Nat) : List En :=
  [.cells p.1 (PR.cs ⟨l, ae, ce, p.2.1, p.2.2, idx⟩ (.slice none 0 0)), .map2 p.2.1 (100 * m) (dF (fun i => (lx l i).item) m), .map2 p.2.2 (100 * m) (rF (fun i => (lx l i).item) m)]
theorem prove_v (x : PD) (b i : Nat) (w : World) (hx : x.At b w) (ho : x.Ok) (hi : i < x.es.length) :
    Calls Try.prog 22 #[.pointer (some ⟨b, 0, none⟩), .int .i64 i] w (Ret (fun p : Nat × Nat × Nat => .pointer (some ⟨p.1, 0, none⟩)) (prvE (lx x.es i).l (lx x.es i).a (lx x.es i).c i (lx x.es i).l.length) w) := by
  have hc := hx.c
  have he := hx.e
  have hE := hx.q _ (lx_mem hi)
  have hlen := ho.len _ (lx_mem hi)
  refine go_in Try.func22 rfl Try.ntmps22 [] [] (Mem.start _) ?_
  refine go ?_
  refine GoL.mm (fun bd => ?_)
  refine go ?_
  refine GoL.mm (fun br => ?_)
  refine go ?_
  refine GoL.a (fun b5 => ?_)
  refine go ?_
  obtain ⟨X, hX⟩ : ∃ X : PR, X = ⟨(lx x.es i).l, (lx x.es i).a, (lx x.es i).c, bd, br, (i : Int)⟩ := ⟨_, rfl⟩
  have HX := hid hX
  have el : (lx x.es i).l = X.l := by rw [hX]
  have ea : (lx x.es i).a = X.ae := by rw [hX]
  have ec : (lx x.es i).c = X.ce := by rw [hX]
  have ed : bd = X.bd := by rw [hX]
  have er : br = X.br := by rw [hX]
  have ei : (i : Int) = X.idx := by rw [hX]
  rw [el] at hlen
  rw [el, ea] at hE
  rw [el, ea, ec, ed, er, ei]
  clear el ea ec ed er ei hX
  have hle : X.l.length ≤ 100 := by omega
  refine go_loop (X := Nat) (fun y => y ≤ X.l.length) (fun y => X.l.length - y) (fun y => [(30, .int .i64 y)]) (fun y => [.cells b5 (X.cs (.slice none 0 0)), .map2 X.bd (100 * y) (dF X.it y), .map2 X.br (100 * y) (rF X.it y)]) 0 [5, 29] (Nat.zero_le _) ⟨fun g => rfl, trivial⟩ sb (fun y hy => ?_)
  refine go ?_
  refine go_if (fun h => ?_) (fun h => ?_)
  · have hy1 : y < X.l.length := by omega
    have hy2 : y < 100 := by omega
    refine go ?_
    refine GoC.mem (H' := [.cells b5 (X.cs (.slice none 0 0)), .map2 X.bd (100 * y) (dF X.it y), .map2 X.br (100 * y + 0) (rJ X.it y 0)]) (fun w hw => by rw [rJ_0]; exact hw) ?_
    refine go_loop (X := Nat) (fun j => j ≤ y) (fun j => y - j) (fun j => [(7, .int .i64 ((y : Int) - 1 - j))]) (fun j => [.cells b5 (X.cs (.slice none 0 0)), .map2 X.bd (100 * y) (dF X.it y), .map2 X.br (100 * y + j) (rJ X.it y j)]) 0 [5, 6, 29, 30] (Nat.zero_le _) (by simp [AgreeL, At]) sb (fun j hj => ?_)
    have hpr : ∀ {w' : World}, Mem w [] [.cells b5 (X.cs (.slice none 0 0)), .map2 X.bd (100 * y) (dF X.it y), .map2 X.br (100 * y + j) (rJ X.it y j)] w' → X.At b5 (.slice none 0 0) (dF X.it y) (rJ X.it y j) w' := fun hw => ⟨hw.cells .here, hw.old hE, ⟨_, hw.mapI (.there .here)⟩, ⟨_, hw.mapI (.there (.there .here))⟩⟩
    refine go ?_
    refine go_if (fun h2 => ?_) (fun h2 => ?_)
    · have hj1 : j < y := by omega
      have hz : ((y : Int) - 1 - j) = ((y - 1 - j : Nat) : Int) := by omega
      rw [hz]
      refine go ?_
      refine GoL.cv (fun w' hw => same_v X b5 _ (y - 1 - j) y w' (hw.cells .here) (hw.old hE) (by omega) hy1 hle) ?_
      refine go ?_
      refine go_if (fun h3 => ?_) (fun h3 => ?_)
      · refine go ?_
        refine GoL.cv (fun w' hw => inner_v X b5 _ _ _ (y - 1 - j) y w' (hpr hw) (bd_dF (by omega)) (bd_rJ hy2) (by omega) hy1 hle) ?_
        rw [inn_eq hj1]
        have h4 := Rv_eq (it := X.it) (z := y - 1 - j) (y := y) (by omega)
        rw [if_pos h3] at h4
        have h5 := Rv_bd (it := X.it) hy2 (y - 1 - j)
        have h6 := upI_ge (innV X.it (y - 1 - j) y).1
        have h7 : 0 ≤ (innV X.it (y - 1 - j) y).1 := by
          have := Dv_bd (it := X.it) (y := y - 1) (by omega) (y - 1 - j)
          have h8 : Dv X.it (y - 1 - j) (y - 1) + 1 ≤ (innV X.it (y - 1 - j) y).1 := innB_ge _
          omega
        refine go ?_
        refine D.cv (fun F w' hw => up_v (innV X.it (y - 1 - j) y).1 w' (by omega)) ?_
        refine go ?_
        refine GoL.mu (b := X.br) (φ := rJ X.it y j) (i := y - 1 - j) (j := y) (q := upI (innV X.it (y - 1 - j) y).1) (rJ X.it y (j + 1)) rp (by omega) (by omega) (by omega) (fun a c => by rw [rJ_put hj1, h4]) ?_
        refine go ?_
        refine go_again (j + 1) ?_ ?_ ?_ sb
        · omega
        · omega
        · simp [AgreeL, At]; omega
      · refine go ?_
        refine GoX.mem (H' := [.cells b5 (X.cs (.slice none 0 0)), .map2 X.bd (100 * y) (dF X.it y), .map2 X.br (100 * y + (j + 1)) (rJ X.it y (j + 1))]) (fun w hw => by rw [rJ_skip hj1 h3]; exact hw.mapUp rp) ?_
        refine go_again (j + 1) ?_ ?_ ?_ sb
        · omega
        · omega
        · simp [AgreeL, At]; omega
    · obtain rfl : j = y := by omega
      rw [rJ_y]
      clear hpr
      refine go ?_
      refine GoC.mem (H' := [.cells b5 (X.cs (.slice none 0 0)), .map2 X.bd (100 * j + 0) (dA X.it j 0), .map2 X.br (100 * j + j) (rF X.it (j + 1))]) (fun w hw => by rw [dA_0]; exact hw) ?_
      refine go_loop (X := Nat) (fun a => a ≤ j) (fun a => j - a) (fun a => [(60, .int .i64 a)]) (fun a => [.cells b5 (X.cs (.slice none 0 0)), .map2 X.bd (100 * j + a) (dA X.it j a), .map2 X.br (100 * j + j) (rF X.it (j + 1))]) 0 [5, 6, 29, 30, 59] (Nat.zero_le _) (by simp [AgreeL, At]) sb (fun a ha => ?_)
      have hpr : ∀ {w' : World}, Mem w [] [.cells b5 (X.cs (.slice none 0 0)), .map2 X.bd (100 * j + a) (dA X.it j a), .map2 X.br (100 * j + j) (rF X.it (j + 1))] w' → X.At b5 (.slice none 0 0) (dA X.it j a) (rF X.it (j + 1)) w' := fun hw => ⟨hw.cells .here, hw.old hE, ⟨_, hw.mapI (.there .here)⟩, ⟨_, hw.mapI (.there (.there .here))⟩⟩
      refine go ?_
      refine go_if (fun h3 => ?_) (fun h3 => ?_)
      · have ha1 : a < j := by omega
        have hb1 := Dv_bd (it := X.it) (y := j - 1) (by omega) a
        refine go ?_
        refine GoL.q ⟨_, Ex.mg (b := X.bd) (φ := dA X.it j a) (i := a) (j := j - 1) (by omega) (by omega) (fun w hw => ⟨_, hw.mapI pk⟩) (hy := by intro g; simp only [evF_tmp, tab_cons, Nat.reduceLT, Nat.reduceEqDiff, ↓reduceIte]; rw [show ((j : Int) - 1) = ((j - 1 : Nat) : Int) by omega]), ?_⟩
        rw [show dA X.it j a a (j - 1) = Dv X.it a (j - 1) by unfold dA; rw [if_pos (by omega)]]
        refine go ?_
        refine go_loop (X := Nat) (fun k => a + k ≤ j) (fun k => j - k) (fun k => [(12, .int .i64 ((a : Int) + k)), (11, .int .i64 (maxB (fun z => decide (X.it z = X.it j)) (fun z => Dv X.it a z + Rv X.it z j) (Dv X.it a (j - 1) + 1) a k))]) (fun _ => [.cells b5 (X.cs (.slice none 0 0)), .map2 X.bd (100 * j + a) (dA X.it j a), .map2 X.br (100 * j + j) (rF X.it (j + 1))]) 0 [5, 6, 10, 29, 30, 59, 60] (by omega) (by simp [AgreeL, At, maxB]) sb (fun k hk => ?_)
        refine go ?_
        refine go_if (fun h4 => ?_) (fun h4 => ?_)
        · have hk1 : a + k < j := by omega
          refine go ?_
          refine GoL.cv (fun w' hw => same_v X b5 _ (a + k) j w' (hw.cells .here) (hw.old hE) (by omega) hy1 hle) ?_
          refine go ?_
          refine go_if (fun h5 => ?_) (fun h5 => ?_)
          · refine go ?_
            refine GoL.cv (fun w' hw => chain_v X b5 _ _ _ a (a + k) j w' (hpr hw) (bd_dA hy2) (bd_rF (by omega)) (by omega) (by omega) (by omega)) ?_
            rw [show dA X.it j a a (a + k) = Dv X.it a (a + k) by unfold dA; rw [if_pos hk1], show rF X.it (j + 1) (a + k) j = Rv X.it (a + k) j by unfold rF; rw [if_pos (by omega)]]
            refine go ?_
            refine go_again (k + 1) ?_ ?_ ?_ sb
            · omega
            · omega
            · simp [AgreeL, At, maxB, h5]
              first | (refine ⟨by omega, ?_⟩; split <;> omega) | (split <;> omega) | omega
          · refine go ?_
            refine go_again (k + 1) ?_ ?_ ?_ sb
            · omega
            · omega
            · simp [AgreeL, At, maxB, h5]; omega
        · obtain rfl : k = j - a := by omega
          have h5 := Dv_eq (it := X.it) ha1
          refine go ?_
          refine GoL.mu (b := X.bd) (φ := dA X.it j a) (i := a) (j := j) (dA X.it j (a + 1)) rp (by omega) (by omega) (by omega) (fun a' c => by rw [dA_put ha1, h5]) ?_
          refine go ?_
          refine go_again (a + 1) ?_ ?_ ?_ sb
          · omega
          · omega
          · simp [AgreeL, At]
      · obtain rfl : a = j := by omega
        rw [dA_y]
        refine go ?_
        refine GoX.mem (H' := [.cells b5 (X.cs (.slice none 0 0)), .map2 X.bd (100 * (a + 1)) (dF X.it (a + 1)), .map2 X.br (100 * (a + 1)) (rF X.it (a + 1))]) (fun w hw => ((hw.mapUp (m := 100 * (a + 1)) (.there .here)).mapUp (.there (.there .here)))) ?_
        refine go_again (a + 1) ?_ ?_ ?_ sb
        · omega
        · omega
        · simp [AgreeL, At]
  · obtain rfl : y = X.l.length := by omega
    refine go ?_
    exact end1 (fun w' hw => ⟨(b5, X.bd, X.br), rfl, hw.done sb⟩)
end

section
set_option linter.all false
/-- a pair of a proof -/
structure LaP where
  path : Int
  fr : Int
  tt : Int
deriving DecidableEq
instance : Inhabited LaP := ⟨⟨0, 0, 0⟩⟩
/-- one pair comes before another -/
def ltP (x y : LaP) : Bool := decide (x.path < y.path ∨ (x.path = y.path ∧ (x.fr < y.fr ∨ (x.fr = y.fr ∧ y.tt < x.tt))))
def insP (x : LaP) : List LaP → List LaP
  | [] => [x]
  | y :: l => if ltP y x = true then y :: insP x l else x :: y :: l
def srtP (l : List LaP) : List LaP := l.foldr insP []
theorem ltP_iff {x y : LaP} : ltP x y = true ↔ x.path < y.path ∨ (x.path = y.path ∧ (x.fr < y.fr ∨ (x.fr = y.fr ∧ y.tt < x.tt))) := by simp [ltP]
theorem ltP_false {x y : LaP} : ltP x y = false ↔ ¬ (x.path < y.path ∨ (x.path = y.path ∧ (x.fr < y.fr ∨ (x.fr = y.fr ∧ y.tt < x.tt)))) := by rw [← ltP_iff, Bool.not_eq_true]
/-- in order: none comes before one that stands ahead of it -/
def SrtP (l : List LaP) : Prop := l.Pairwise fun x y => ltP y x = false
theorem insP_perm (x : LaP) : ∀ l, (insP x l).Perm (x :: l)
  | [] => .refl _
  | y :: l => by
    unfold insP
    split
    · exact ((insP_perm x l).cons y).trans (.swap _ _ _)
    · exact .refl _
theorem srtP_perm : ∀ l, (srtP l).Perm l
  | [] => .refl _
  | x :: l => (insP_perm x _).trans ((srtP_perm l).cons x)
theorem insP_srt (x : LaP) : ∀ {l}, SrtP l → SrtP (insP x l)
  | [], _ => by simp [insP, SrtP]
  | y :: l, h => by
    obtain ⟨h1, h2⟩ := List.pairwise_cons.1 h
    unfold insP
    split
    · rename_i hlt
      refine List.pairwise_cons.2 ⟨fun z hz => ?_, insP_srt x h2⟩
      rcases List.mem_cons.1 ((insP_perm x l).mem_iff.1 hz) with rfl | hz
      · rw [ltP_iff] at hlt; rw [ltP_false]; omega
      · exact h1 z hz
    · rename_i hlt
      refine List.pairwise_cons.2 ⟨fun z hz => ?_, h⟩
      rcases List.mem_cons.1 hz with rfl | hz
      · simpa using hlt
      · have h3 := h1 z hz
        rw [ltP_false] at h3 ⊢
        rw [ltP_iff] at hlt
        omega
theorem srtP_srt : ∀ l, SrtP (srtP l)
  | [] => List.Pairwise.nil
  | x :: l => insP_srt x (srtP_srt l)
theorem ltP_tri {x y : LaP} (h1 : ltP x y = false) (h2 : ltP y x = false) : x = y := by
  rw [ltP_false] at h1 h2
  obtain ⟨a, b, c⟩ := x; obtain ⟨a', b', c'⟩ := y
  simp only at h1 h2
  obtain rfl : a = a' := by omega
  obtain rfl : b = b' := by omega
  obtain rfl : c = c' := by omega
  rfl
/-- two lists in order with the same elements are equal -/
theorem srt_uniq : ∀ {l m : List LaP}, l.Perm m → SrtP l → SrtP m → l = m
  | [], m, h, _, _ => (List.Perm.nil_eq h)
  | x :: l, [], h, _, _ => by have := h.length_eq; simp at this
  | x :: l, y :: m, h, hl, hm => by
    obtain ⟨a1, a2⟩ := List.pairwise_cons.1 hl
    obtain ⟨b1, b2⟩ := List.pairwise_cons.1 hm
    have e : x = y := by
      have hx : x ∈ y :: m := h.mem_iff.1 (by simp)
      have hy : y ∈ x :: l := h.mem_iff.2 (by simp)
      rcases List.mem_cons.1 hx with e | hx
      · exact e
      rcases List.mem_cons.1 hy with e | hy
      · exact e.symm
      exact ltP_tri (b1 x hx) (a1 y hy)
    subst e
    rw [srt_uniq (List.Perm.cons_inv h) a2 b2]
theorem srtP_eq {l m : List LaP} (h : m.Perm l) (hs : SrtP m) : m = srtP l := srt_uniq (h.trans (srtP_perm l).symm) hs (srtP_srt l)
theorem srtP_len (l : List LaP) : (srtP l).length = l.length := (srtP_perm l).length_eq
theorem srtP_mem {l : List LaP} {x : LaP} : x ∈ srtP l ↔ x ∈ l := (srtP_perm l).mem_iff
end

section
set_option linter.all false
set_option pp.maxSteps 100000
set_option maxRecDepth 100000
set_option maxHeartbeats 4000000
open Go.RowKit

@[simp] def LaP.cs (x : LaP) : List Value := [.int .i64 x.path, .int .i64 x.fr, .int .i64 x.tt]
theorem LaP.one (x : LaP) : ∀ u ∈ x.cs, u.oneCell' = true := by intro u hu; simp at hu; rcases hu with rfl | rfl | rfl <;> rfl
theorem elP : ElemT Try.prog 31 38 3 24 := ElemT.mk' (z := .agg #[.int .i64 0, .int .i64 0, .int .i64 0]) Try.underlying31 (by kernel_rfl) rfl
abbrev tup0 : Unit → Value := fun _ => .tuple #[]
theorem add_v {w0 w : World} {Bs : List Nat} {F : List En} (x : PR) (b : Nat) (ps : List LaP) (av : Option Addr) (cv : Nat) (z y : Nat) (hm : Mem w0 Bs (.cells b (x.cs (.slice av ps.length cv)) :: .own LaP.cs 3 38 (.slice av ps.length cv) ps :: F) w) (hn : ps.length ≤ 100000) :
    Calls Try.prog 47 #[.pointer (some ⟨b, 0, none⟩), .int .i64 z, .int .i64 y] w (fun e w' => ∃ p : Option Addr × Nat, e = .returned (.tuple #[]) ∧ Mem w0 Bs (.cells b (x.cs (.slice p.1 (ps ++ [LaP.mk x.idx z y]).length p.2)) :: .own LaP.cs 3 38 (.slice p.1 (ps ++ [LaP.mk x.idx z y]).length p.2) (ps ++ [LaP.mk x.idx z y]) :: F) w') := by
  refine go_in0 Try.func47 rfl Try.ntmps47 hm ?_
  refine GoC.mem (H' := [.own LaP.cs 3 38 (.slice av ps.length cv) ps] ++ (.cells b (x.cs (.slice av ps.length cv)) :: F)) (fun w hw => hw.perm (.swap _ _ _)) ?_
  refine go_drw [.own LaP.cs 3 38 (.slice av ps.length cv) ps] (.cells b (x.cs (.slice av ps.length cv)) :: F) ?_
  refine go ?_
  refine D.e0 [] [] (fun X F => Ef.lit (f := LaP.cs) (m := 3) (e := 38) [LaP.mk x.idx z y] (fun _ => rfl) rfl) ?_
  refine go ?_
  refine D.e0 [] [17, 12] (fun X F => Ef.appS (f := LaP.cs) (l := ps) (l2 := [LaP.mk x.idx z y]) elP (fun _ => rfl) LaP.one (by simp only [List.length_cons, List.length_nil]; omega) .here .here) ?_
  refine go ?_
  refine D.nil [(13, fun X => .sl LaP.cs 3 38 (ps ++ [LaP.mk x.idx z y]) (X 13))] (fun X => GoL.slo fun a c hX => ?_) (hchk := (by show chkDD _ _ 1 [13] = true; decide +kernel))
  rw [hX]
  refine go ?_
  refine end0 (fun w' hw => ⟨(a, c), rfl, hw.perm (.swap _ _ _)⟩)

theorem dF_at {it : Nat → Int} {m a y : Nat} (h : y < m) : dF it m a y = Dv it a y := if_pos h
theorem rF_at {it : Nat → Int} {m a y : Nat} (h : y < m) : rF it m a y = Rv it a y := if_pos h
theorem inn_dF {it : Nat → Int} {m z y : Nat} (hz : z < y) (hy : y < m) : innB (fun v => decide (it v = it y)) (fun v => dF it m z v + rF it m v y) (dF it m z (y - 1) + 1) z (y - 1 - z) = innV it z y := by
  unfold innV
  rw [dF_at (by omega)]
  refine innB_congr _ fun w h1 h2 => ⟨rfl, fun _ => ?_⟩
  rw [dF_at (by omega), rF_at (by omega)]
/-- the memory of a proof that is written -/
abbrev wrH (x : PR) (b b1 b2 b3 N9 : Nat) (m : Nat) (G : List En) (ps : List LaP) (p : Option Addr × Nat) : List En :=
  .cells b (x.cs (.slice p.1 ps.length p.2)) :: .own LaP.cs 3 38 (.slice p.1 ps.length p.2) ps :: .map2 x.bd N9 (dF x.it m) :: .map2 x.br N9 (rF x.it m) :: .cells b1 [.pointer (some ⟨b, 0, none⟩)] ::
    .cells b2 [.func (.func 46) #[] #[.pointer (some ⟨b1, 0, none⟩), .pointer (some ⟨b2, 0, none⟩), .pointer (some ⟨b3, 0, none⟩)]] :: .cells b3 [.func (.func 48) #[] #[.pointer (some ⟨b1, 0, none⟩), .pointer (some ⟨b2, 0, none⟩), .pointer (some ⟨b3, 0, none⟩)]] :: G
abbrev wrP (x : PR) (l : List (Nat × Nat)) : List LaP := l.map fun q => LaP.mk x.idx q.1 q.2
theorem write2_v {w0 : World} {Bs : List Nat} {G : List En} (x : PR) (b b1 b2 b3 N9 : Nat) (hl : x.l.length ≤ 100) (hE : ∀ w, Mem w0 Bs G w → Rd Evt.cs 2 w x.ae x.l) (k : Nat)
    (hb : ∀ a y ps p w, Mem w0 Bs (wrH x b b1 b2 b3 N9 x.l.length G ps p) w → a ≤ y → y < x.l.length → prD true a y ≤ k → ps.length + 2 * (y - a) ≤ 1000 →
      Calls Try.prog 46 #[.int .i64 a, .int .i64 y, .pointer (some ⟨b1, 0, none⟩), .pointer (some ⟨b2, 0, none⟩), .pointer (some ⟨b3, 0, none⟩)] w (fun e w' => ∃ p, e = .returned (.tuple #[]) ∧ Mem w0 Bs (wrH x b b1 b2 b3 N9 x.l.length G (ps ++ wrP x (prs x.it k true a y)) p) w'))
    (hw2 : ∀ a y ps p w, Mem w0 Bs (wrH x b b1 b2 b3 N9 x.l.length G ps p) w → a < y → y < x.l.length → prD false a y ≤ k → ps.length + 2 * (y - a) ≤ 1001 →
      Calls Try.prog 48 #[.int .i64 a, .int .i64 y, .pointer (some ⟨b1, 0, none⟩), .pointer (some ⟨b2, 0, none⟩), .pointer (some ⟨b3, 0, none⟩)] w (fun e w' => ∃ p, e = .returned (.tuple #[]) ∧ Mem w0 Bs (wrH x b b1 b2 b3 N9 x.l.length G (ps ++ wrP x (prs x.it k false a y)) p) w'))
    (z y : Nat) (ps : List LaP) (p : Option Addr × Nat) (w : World) (hm : Mem w0 Bs (wrH x b b1 b2 b3 N9 x.l.length G ps p) w) (hz : z < y) (hy : y < x.l.length) (hk : prD false z y ≤ k + 1) (hps : ps.length + 2 * (y - z) ≤ 1001) :
      Calls Try.prog 48 #[.int .i64 z, .int .i64 y, .pointer (some ⟨b1, 0, none⟩), .pointer (some ⟨b2, 0, none⟩), .pointer (some ⟨b3, 0, none⟩)] w (fun e w' => ∃ p, e = .returned (.tuple #[]) ∧ Mem w0 Bs (wrH x b b1 b2 b3 N9 x.l.length G (ps ++ wrP x (prs x.it (k + 1) false z y)) p) w') := by
  have hpr : ∀ {ps p w}, Mem w0 Bs (wrH x b b1 b2 b3 N9 x.l.length G ps p) w → x.At b (.slice p.1 ps.length p.2) (dF x.it x.l.length) (rF x.it x.l.length) w := fun hw => ⟨hw.cells .here, hE _ (hw.sub (Sub.tl (Sub.tl (Sub.tl (Sub.tl (Sub.tl (Sub.tl (Sub.tl (Sub.refl _))))))))), ⟨_, hw.mapI pk⟩, ⟨_, hw.mapI pk⟩⟩
  refine go_in0 Try.func48 rfl Try.ntmps48 hm ?_
  dsimp only [wrH]
  refine go ?_
  have hG : ∀ w, Mem w0 Bs (.cells b (x.cs (.slice p.1 ps.length p.2)) :: .own LaP.cs 3 38 (.slice p.1 ps.length p.2) ps :: .map2 x.bd N9 (dF x.it x.l.length) :: .map2 x.br N9 (rF x.it x.l.length) :: .cells b1 [.pointer (some ⟨b, 0, none⟩)] ::
    .cells b2 [.func (.func 46) #[] #[.pointer (some ⟨b1, 0, none⟩), .pointer (some ⟨b2, 0, none⟩), .pointer (some ⟨b3, 0, none⟩)]] :: .cells b3 [.func (.func 48) #[] #[.pointer (some ⟨b1, 0, none⟩), .pointer (some ⟨b2, 0, none⟩), .pointer (some ⟨b3, 0, none⟩)]] :: G) w → x.At b (.slice p.1 ps.length p.2) (dF x.it x.l.length) (rF x.it x.l.length) w := fun w hw => hpr hw
  refine GoL.cv (fun w' hw => inner_v x b _ _ _ z y w' (hG w' hw) (bd_dF hl) (bd_rF hl) hz hy hl) ?_
  rw [inn_dF hz hy]
  refine go ?_
  refine go_if (fun h => ?_) (fun h => ?_)
  · refine go ?_
    rw [show ((y : Int) - 1) = ((y - 1 : Nat) : Int) by omega]
    refine GoL.cm (fun w' hw => hb z (y - 1) ps p w' hw (by omega) (by omega) (by simp [prD] at hk ⊢; omega) (by omega)) (fun p' => ?_)
    refine go ?_
    refine end0 (fun w' hw => ⟨p', rfl, ?_⟩)
    rw [prs, if_pos h]; exact hw
  · obtain ⟨g1, g2, g3, g4⟩ := innV_from (show ¬ (innV x.it z y).2 < 0 by omega)
    obtain ⟨v, hv⟩ : ∃ v, v = (innV x.it z y).2.toNat := ⟨_, rfl⟩
    have e2 : (innV x.it z y).2 = (v : Int) := by rw [hv]; exact g4
    rw [← hv] at g1 g2
    have hP : prs x.it (k + 1) false z y = prs x.it k true z v ++ (v, y) :: prs x.it k false v y := by rw [prs, if_neg (by omega), ← hv]
    have i1 := prs_len (it := x.it) k true z v (by omega) (fun h => by cases h)
    simp only [if_true] at i1
    rw [e2]
    clear e2 hv g4 g3 h
    refine go ?_
    refine GoL.cm (fun w' hw => hb z v ps p w' hw (by omega) (by omega) (by simp [prD] at hk ⊢; omega) (by omega)) (fun p' => ?_)
    refine go ?_
    generalize hq : ps ++ wrP x (prs x.it k true z v) = ps'
    have hql : ps'.length ≤ ps.length + (2 * (v - z) - 1) := by rw [← hq]; simp [wrP]; omega
    dsimp only [wrH]
    refine go ?_
    refine GoL.cm (fun w' hw => add_v x b ps' p'.1 p'.2 v y hw (by omega)) (fun p2 => ?_)
    refine go ?_
    generalize hq2 : ps' ++ [LaP.mk x.idx v y] = ps2
    have hql2 : ps2.length = ps'.length + 1 := by rw [← hq2]; simp
    refine GoL.cm (fun w' hw => hw2 v y ps2 p2 w' hw (by omega) (by omega) (by simp [prD] at hk ⊢; omega) (by omega)) (fun p3 => ?_)
    refine go ?_
    refine end0 (fun w' hw => ⟨p3, rfl, ?_⟩)
    rw [hP]
    have e : ps ++ wrP x (prs x.it k true z v ++ (v, y) :: prs x.it k false v y) = ps2 ++ wrP x (prs x.it k false v y) := by
      rw [← hq2, ← hq]; simp [wrP]
    rw [e]; exact hw

section
variable {w0 : World} {Bs : List Nat} {P : Program} {c : Code} {n : Nat} {ds : List Deferred} {L : List (Nat × Value)} {H : List En} {Q : Exit → Act → World → Prop}
theorem go_scope (h : GoC w0 Bs P c n ds L H (Exit.noGoto Q)) : GoC w0 Bs P (.scope c) n ds L H Q := .mk fun g w hw => wp_scope_straight (h.go g w hw)
theorem go_label {l : Nat} (h : GoX w0 Bs .normal n ds L H Q) : GoC w0 Bs P (.label l) n ds L H Q := .mk fun g w hw => wp_label (h.go g w hw)
theorem xn_n (h : GoX w0 Bs .normal n ds L H Q) : GoX w0 Bs .normal n ds L H (Exit.noGoto Q) := ⟨h.go⟩
theorem xn_r (h : GoX w0 Bs .ret n ds L H Q) : GoX w0 Bs .ret n ds L H (Exit.noGoto Q) := ⟨h.go⟩
end
theorem write1_v {w0 : World} {Bs : List Nat} {G : List En} (x : PR) (b b1 b2 b3 N9 : Nat) (hl : x.l.length ≤ 100) (hE : ∀ w, Mem w0 Bs G w → Rd Evt.cs 2 w x.ae x.l) (k : Nat)
    (hb : ∀ a y ps p w, Mem w0 Bs (wrH x b b1 b2 b3 N9 x.l.length G ps p) w → a ≤ y → y < x.l.length → prD true a y ≤ k → ps.length + 2 * (y - a) ≤ 1000 →
      Calls Try.prog 46 #[.int .i64 a, .int .i64 y, .pointer (some ⟨b1, 0, none⟩), .pointer (some ⟨b2, 0, none⟩), .pointer (some ⟨b3, 0, none⟩)] w (fun e w' => ∃ p, e = .returned (.tuple #[]) ∧ Mem w0 Bs (wrH x b b1 b2 b3 N9 x.l.length G (ps ++ wrP x (prs x.it k true a y)) p) w'))
    (hw2 : ∀ a y ps p w, Mem w0 Bs (wrH x b b1 b2 b3 N9 x.l.length G ps p) w → a < y → y < x.l.length → prD false a y ≤ k → ps.length + 2 * (y - a) ≤ 1001 →
      Calls Try.prog 48 #[.int .i64 a, .int .i64 y, .pointer (some ⟨b1, 0, none⟩), .pointer (some ⟨b2, 0, none⟩), .pointer (some ⟨b3, 0, none⟩)] w (fun e w' => ∃ p, e = .returned (.tuple #[]) ∧ Mem w0 Bs (wrH x b b1 b2 b3 N9 x.l.length G (ps ++ wrP x (prs x.it k false a y)) p) w'))
    (a y : Nat) (ps : List LaP) (p : Option Addr × Nat) (w : World) (hm : Mem w0 Bs (wrH x b b1 b2 b3 N9 x.l.length G ps p) w) (ha : a ≤ y) (hy : y < x.l.length) (hk : prD true a y ≤ k + 1) (hps : ps.length + 2 * (y - a) ≤ 1000) :
      Calls Try.prog 46 #[.int .i64 a, .int .i64 y, .pointer (some ⟨b1, 0, none⟩), .pointer (some ⟨b2, 0, none⟩), .pointer (some ⟨b3, 0, none⟩)] w (fun e w' => ∃ p, e = .returned (.tuple #[]) ∧ Mem w0 Bs (wrH x b b1 b2 b3 N9 x.l.length G (ps ++ wrP x (prs x.it (k + 1) true a y)) p) w') := by
  have hpr : ∀ {ps p w}, Mem w0 Bs (wrH x b b1 b2 b3 N9 x.l.length G ps p) w → x.At b (.slice p.1 ps.length p.2) (dF x.it x.l.length) (rF x.it x.l.length) w := fun hw => ⟨hw.cells .here, hE _ (hw.sub (Sub.tl (Sub.tl (Sub.tl (Sub.tl (Sub.tl (Sub.tl (Sub.tl (Sub.refl _))))))))), ⟨_, hw.mapI pk⟩, ⟨_, hw.mapI pk⟩⟩
  have hG : ∀ w, Mem w0 Bs (.cells b (x.cs (.slice p.1 ps.length p.2)) :: .own LaP.cs 3 38 (.slice p.1 ps.length p.2) ps :: .map2 x.bd N9 (dF x.it x.l.length) :: .map2 x.br N9 (rF x.it x.l.length) :: .cells b1 [.pointer (some ⟨b, 0, none⟩)] ::
    .cells b2 [.func (.func 46) #[] #[.pointer (some ⟨b1, 0, none⟩), .pointer (some ⟨b2, 0, none⟩), .pointer (some ⟨b3, 0, none⟩)]] :: .cells b3 [.func (.func 48) #[] #[.pointer (some ⟨b1, 0, none⟩), .pointer (some ⟨b2, 0, none⟩), .pointer (some ⟨b3, 0, none⟩)]] :: G) w → x.At b (.slice p.1 ps.length p.2) (dF x.it x.l.length) (rF x.it x.l.length) w := fun w hw => hpr hw
  refine go_in0 Try.func46 rfl Try.ntmps46 hm ?_
  refine go_scope ?_
  dsimp only [wrH]
  refine go ?_
  refine go_if (fun h => ?_) (fun h => ?_)
  · obtain rfl : a = y := by omega
    refine go ?_
    refine xn_r ?_
    refine end0 (fun w' hw => ⟨p, rfl, ?_⟩)
    rw [prs, if_pos rfl]; simp only [wrP, List.map_nil, List.append_nil]; exact hw
  have hay : a < y := by omega
  refine go ?_
  refine GoL.q ⟨_, Ex.mg (b := x.bd) (φ := dF x.it x.l.length) (i := a) (j := y) (by omega) (by omega) (fun w hw => ⟨_, hw.mapI pk⟩), ?_⟩
  rw [dF_at hy]
  have hd1 := Dv_bd (it := x.it) (y := y - 1) (by omega) a
  refine go ?_
  refine GoL.q ⟨_, Ex.mg (b := x.bd) (φ := dF x.it x.l.length) (i := a) (j := y - 1) (by omega) (by omega) (fun w hw => ⟨_, hw.mapI pk⟩) (hy := by intro g; simp only [evF_tmp, tab_cons, Nat.reduceLT, Nat.reduceEqDiff, ↓reduceIte]; rw [show ((y : Int) - 1) = ((y - 1 : Nat) : Int) by omega]), ?_⟩
  rw [dF_at (show y - 1 < x.l.length by omega)]
  refine go ?_
  refine go_if (fun h2 => ?_) (fun h2 => ?_)
  · refine go ?_
    rw [show ((y : Int) - 1) = ((y - 1 : Nat) : Int) by omega]
    refine GoL.cm (fun w' hw => hb a (y - 1) ps p w' hw (by omega) (by omega) (by simp [prD] at hk ⊢; omega) (by omega)) (fun p' => ?_)
    refine go ?_
    refine xn_r ?_
    refine end0 (fun w' hw => ⟨p', rfl, ?_⟩)
    rw [prs, if_neg (by omega), if_pos h2]; exact hw
  obtain ⟨f1, f2, f3, f4⟩ := fstZ_ok (it := x.it) hay h2
  obtain ⟨f, hf⟩ : ∃ f, f = fstZ x.it a y := ⟨_, rfl⟩
  have hP : prs x.it (k + 1) true a y = prs x.it k true a f ++ (f, y) :: prs x.it k false f y := by rw [prs, if_neg (by omega), if_neg h2, ← hf]
  rw [← hf] at f1 f2 f3 f4
  clear hf
  have i1 := prs_len (it := x.it) k true a f (by omega) (fun h => by cases h)
  simp only [if_true] at i1
  refine go_skip ?_
  refine xt_n ?_
  refine go_seq ?_
  refine go_reg ?_
  refine go ?_
  refine go_label ?_
  refine go ?_
  refine go_loop (X := Nat) (fun z => a ≤ z ∧ z ≤ f) (fun z => f - z) (fun z => [(8, .int .i64 z)]) (fun _ => wrH x b b1 b2 b3 N9 x.l.length G ps p) a [0, 1, 2, 3, 4, 7] ⟨Nat.le_refl _, f1⟩ (by simp [AgreeL, At]) (Sub.refl _) (fun z hz => ?_)
  dsimp only [wrH]
  refine go ?_
  refine GoL.cv (fun w' hw => same_v x b _ z y w' (hG w' hw).c (hG w' hw).e (by omega) hy hl) ?_
  refine go ?_
  have hdz := Dv_bd (it := x.it) (y := z) (by omega) a
  have hrz := Rv_bd (it := x.it) (y := y) (by omega) z
  refine GoL.jk 8 [(52, .bool (atZ x.it a y z))] [0, 1, 2, 3, 4, 7, 8] ?_ ?_
  · refine GoL.sp (fun h1 => ?_) (fun h1 => ?_)
    · refine go ?_
      refine GoL.cv (fun w' hw => chain_v x b _ _ _ a z y w' (hG w' hw) (bd_dF hl) (bd_rF hl) (by omega) (by omega) (by omega)) ?_
      rw [dF_at (show z < x.l.length by omega), rF_at hy]
      refine go ?_
      exact GoL.jd (by simp [AgreeL, At, h1, atZ]; rfl) (Sub.refl _)
    · refine go ?_
      exact GoL.jd (by simp [AgreeL, At, h1, atZ]) (Sub.refl _)
  refine go ?_
  refine go_if (fun h3 => ?_) (fun h3 => ?_)
  rotate_left
  · refine go ?_
    have hzf : ¬ z = f := fun e => by rw [e, f3] at h3; cases h3
    refine go_again (z + 1) ⟨by omega, by omega⟩ (by omega) (by simp [AgreeL, At]) (Sub.refl _)
  obtain rfl : z = f := by
    rcases Nat.lt_or_ge z f with h9 | h9
    · rw [f4 z hz.1 h9] at h3; cases h3
    · omega
  refine go ?_
  refine GoL.cm (fun w' hw => hb a z ps p w' hw (by omega) (by omega) (by simp [prD] at hk ⊢; omega) (by omega)) (fun p' => ?_)
  refine go ?_
  generalize hq : ps ++ wrP x (prs x.it k true a z) = ps'
  have hql : ps'.length ≤ ps.length + (2 * (z - a) - 1) := by rw [← hq]; simp [wrP]; omega
  dsimp only [wrH]
  refine go ?_
  refine GoL.cm (fun w' hw => add_v x b ps' p'.1 p'.2 z y hw (by omega)) (fun p2 => ?_)
  refine go ?_
  generalize hq2 : ps' ++ [LaP.mk x.idx z y] = ps2
  have hql2 : ps2.length = ps'.length + 1 := by rw [← hq2]; simp
  refine GoL.cm (fun w' hw => hw2 z y ps2 p2 w' hw (by omega) (by omega) (by simp [prD] at hk ⊢; omega) (by omega)) (fun p3 => ?_)
  refine go ?_
  refine xn_n ?_
  refine end0 (fun w' hw => ⟨p3, rfl, ?_⟩)
  rw [hP]
  have e : ps ++ wrP x (prs x.it k true a z ++ (z, y) :: prs x.it k false z y) = ps2 ++ wrP x (prs x.it k false z y) := by
    rw [← hq2, ← hq]; simp [wrP]
  rw [e]; exact hw
theorem write12_v {w0 : World} {Bs : List Nat} {G : List En} (x : PR) (b b1 b2 b3 N9 : Nat) (hl : x.l.length ≤ 100) (hE : ∀ w, Mem w0 Bs G w → Rd Evt.cs 2 w x.ae x.l) : ∀ k,
    (∀ a y ps p w, Mem w0 Bs (wrH x b b1 b2 b3 N9 x.l.length G ps p) w → a ≤ y → y < x.l.length → prD true a y ≤ k → ps.length + 2 * (y - a) ≤ 1000 →
      Calls Try.prog 46 #[.int .i64 a, .int .i64 y, .pointer (some ⟨b1, 0, none⟩), .pointer (some ⟨b2, 0, none⟩), .pointer (some ⟨b3, 0, none⟩)] w (fun e w' => ∃ p, e = .returned (.tuple #[]) ∧ Mem w0 Bs (wrH x b b1 b2 b3 N9 x.l.length G (ps ++ wrP x (prs x.it k true a y)) p) w')) ∧
    (∀ a y ps p w, Mem w0 Bs (wrH x b b1 b2 b3 N9 x.l.length G ps p) w → a < y → y < x.l.length → prD false a y ≤ k → ps.length + 2 * (y - a) ≤ 1001 →
      Calls Try.prog 48 #[.int .i64 a, .int .i64 y, .pointer (some ⟨b1, 0, none⟩), .pointer (some ⟨b2, 0, none⟩), .pointer (some ⟨b3, 0, none⟩)] w (fun e w' => ∃ p, e = .returned (.tuple #[]) ∧ Mem w0 Bs (wrH x b b1 b2 b3 N9 x.l.length G (ps ++ wrP x (prs x.it k false a y)) p) w'))
  | 0 => ⟨fun a y _ _ _ _ _ _ h => by simp [prD] at h, fun a y _ _ _ _ h1 _ h => by simp [prD] at h; omega⟩
  | k + 1 => by
    obtain ⟨i1, i2⟩ := write12_v x b b1 b2 b3 N9 hl hE k
    exact ⟨write1_v x b b1 b2 b3 N9 hl hE k i1 i2, write2_v x b b1 b2 b3 N9 hl hE k i1 i2⟩
/-- the pairs of a path's events -/
def prsL (it : Nat → Int) (m : Nat) : List (Nat × Nat) := prs it (2 * m) true 0 (m - 1)
theorem write_v {w0 w : World} {Bs : List Nat} {G : List En} (x : PR) (b N9 : Nat) (hl : 1 ≤ x.l.length ∧ x.l.length ≤ 100) (hE : ∀ w, Mem w0 Bs G w → Rd Evt.cs 2 w x.ae x.l)
    (hm : Mem w0 Bs (.cells b (x.cs (.slice none 0 0)) :: .map2 x.bd N9 (dF x.it x.l.length) :: .map2 x.br N9 (rF x.it x.l.length) :: G) w) :
    Calls Try.prog 23 #[.pointer (some ⟨b, 0, none⟩)] w (fun e w' => ∃ p : Option Addr × Nat, e = .returned (.tuple #[]) ∧ Mem w0 Bs (.cells b (x.cs (.slice p.1 (wrP x (prsL x.it x.l.length)).length p.2)) :: .own LaP.cs 3 38 (.slice p.1 (wrP x (prsL x.it x.l.length)).length p.2) (wrP x (prsL x.it x.l.length)) :: .map2 x.bd N9 (dF x.it x.l.length) :: .map2 x.br N9 (rF x.it x.l.length) :: G) w') := by
  refine go_in0 Try.func23 rfl Try.ntmps23 hm ?_
  refine go ?_
  refine GoL.a (fun b1 => ?_)
  refine go ?_
  refine GoL.a (fun b2 => ?_)
  refine go ?_
  refine GoL.a (fun b3 => ?_)
  refine go ?_
  rw [show ((x.l.length : Int) - 1) = ((x.l.length - 1 : Nat) : Int) by omega]
  refine GoL.mem (H' := wrH x b b1 b2 b3 N9 x.l.length G [] (none, 0)) (fun w hw => ((Mem.own0 LaP.cs 3 38 hw).sub (Sub.cons pk (Sub.cons pk (Sub.cons pk (Sub.cons pk (Sub.cons pk (Sub.cons pk (Sub.cons pk (Sub.refl _)))))))))) ?_
  refine GoL.cm (fun w' hw => (write12_v x b b1 b2 b3 N9 hl.2 hE (2 * x.l.length)).1 0 (x.l.length - 1) [] (none, 0) w' hw (Nat.zero_le _) (by omega) (by simp [prD]; omega) (by simp; omega)) (fun p' => ?_)
  refine go ?_
  refine end0 (fun w' hw => ⟨p', rfl, ?_⟩)
  exact hw.sub (Sub.cons pk (Sub.cons pk (Sub.cons pk (Sub.cons pk (Sub.tl (Sub.tl (Sub.tl (Sub.refl _))))))))
end

section
set_option linter.all false
open Go.RowKit

def sfP_f (k : Nat) : Nat := match k with | 6 => 49 | 14 => 63 | 15 => 64 | 20 => 76 | 21 => 77 | 22 => 78 | 23 => 79 | 24 => 80 | 25 => 81 | 26 => 82 | 27 => 83 | 28 => 84 | 29 => 85 | 46 => 91 | 47 => 92 | 48 => 93 | 49 => 94 | 50 => 95 | 57 => 98 | _ => 0
def sfP_t (k : Nat) : Nat := match k with | 0 => 0 | 3 => 3 | 4 => 4 | 5 => 5 | 9 => 9 | 22 => 31 | 24 => 38 | 25 => 102 | 39 => 121 | 45 => 128 | 46 => 129 | 50 => 76 | 53 => 135 | 55 => 137 | 66 => 145 | 70 => 149 | 76 => 151 | 77 => 97 | _ => 0
def sfP_r : Go.Shelf.Ren := ⟨sfP_f, sfP_t, fun k => k⟩
theorem sfP_mixed : Try.prog.follows .mixedOrders = true := by kernel_rfl
theorem sfP_f6 : Bears Try.prog (sfP_r.f 6) (SlBodyF.n6 sfP_r) := ⟨Try.f49.name, by kernel_rfl, Try.func49.trans (congrArg some (by kernel_rfl))⟩
theorem sfP_f14 : Bears Try.prog (sfP_r.f 14) (SlBodyF.n14 sfP_r) := ⟨Try.f63.name, by kernel_rfl, Try.func63.trans (congrArg some (by kernel_rfl))⟩
theorem sfP_f15 : Try.prog.funcs[sfP_r.f 15]? = some (SlBodyF.n15 sfP_r) := Try.func64.trans (congrArg some (by kernel_rfl))
theorem sfP_f20 : Bears Try.prog (sfP_r.f 20) (SlBodyF.n20 sfP_r) := ⟨Try.f76.name, by kernel_rfl, Try.func76.trans (congrArg some (by kernel_rfl))⟩
theorem sfP_f21 : Bears Try.prog (sfP_r.f 21) (SlBodyF.n21 sfP_r) := ⟨Try.f77.name, by kernel_rfl, Try.func77.trans (congrArg some (by kernel_rfl))⟩
theorem sfP_f22 : Bears Try.prog (sfP_r.f 22) (SlBodyF.n22 sfP_r) := ⟨Try.f78.name, by kernel_rfl, Try.func78.trans (congrArg some (by kernel_rfl))⟩
theorem sfP_f23 : Bears Try.prog (sfP_r.f 23) (SlBodyF.n23 sfP_r) := ⟨Try.f79.name, by kernel_rfl, Try.func79.trans (congrArg some (by kernel_rfl))⟩
theorem sfP_f24 : Bears Try.prog (sfP_r.f 24) (SlBodyF.n24 sfP_r) := ⟨Try.f80.name, by kernel_rfl, Try.func80.trans (congrArg some (by kernel_rfl))⟩
theorem sfP_f25 : Bears Try.prog (sfP_r.f 25) (SlBodyF.n25 sfP_r) := ⟨Try.f81.name, by kernel_rfl, Try.func81.trans (congrArg some (by kernel_rfl))⟩
theorem sfP_f26 : Bears Try.prog (sfP_r.f 26) (SlBodyF.n26 sfP_r) := ⟨Try.f82.name, by kernel_rfl, Try.func82.trans (congrArg some (by kernel_rfl))⟩
theorem sfP_f27 : Bears Try.prog (sfP_r.f 27) (SlBodyF.n27 sfP_r) := ⟨Try.f83.name, by kernel_rfl, Try.func83.trans (congrArg some (by kernel_rfl))⟩
theorem sfP_f28 : Try.prog.funcs[sfP_r.f 28]? = some (SlBodyF.n28 sfP_r) := Try.func84.trans (congrArg some (by kernel_rfl))
theorem sfP_f29 : Try.prog.funcs[sfP_r.f 29]? = some (SlBodyF.n29 sfP_r) := Try.func85.trans (congrArg some (by kernel_rfl))
theorem sfP_f46 : Bears Try.prog (sfP_r.f 46) (SlBodyF.n46 sfP_r) := ⟨Try.f91.name, by kernel_rfl, Try.func91.trans (congrArg some (by kernel_rfl))⟩
theorem sfP_f47 : Try.prog.funcs[sfP_r.f 47]? = some (SlBodyF.n47 sfP_r) := Try.func92.trans (congrArg some (by kernel_rfl))
theorem sfP_f48 : Try.prog.funcs[sfP_r.f 48]? = some (SlBodyF.n48 sfP_r) := Try.func93.trans (congrArg some (by kernel_rfl))
theorem sfP_f49 : Bears Try.prog (sfP_r.f 49) (SlBodyF.n49 sfP_r) := ⟨Try.f94.name, by kernel_rfl, Try.func94.trans (congrArg some (by kernel_rfl))⟩
theorem sfP_f50 : Bears Try.prog (sfP_r.f 50) (SlBodyF.n50 sfP_r) := ⟨Try.f95.name, by kernel_rfl, Try.func95.trans (congrArg some (by kernel_rfl))⟩
theorem sfP_f57 : Bears Try.prog (sfP_r.f 57) (SlBodyF.n57 sfP_r) := ⟨Try.f98.name, by kernel_rfl, Try.func98.trans (congrArg some (by kernel_rfl))⟩
theorem sfP_t0 : Try.prog.underlying (sfP_r.t 0) = some (TypeDesc.tuple #[]) := by kernel_rfl
theorem sfP_a0 : ∀ w, (isAgg (sfP_r.t 0)).run Try.prog w = .ok false w := fun w => by kernel_rfl
theorem sfP_z0 : ∀ w, (Go.sizeOf (sfP_r.t 0)).run Try.prog w = .ok 1 w := fun w => by kernel_rfl
theorem sfP_v0 : ∀ w, (zeroValue (sfP_r.t 0)).run Try.prog w = .ok (Value.tuple #[]) w := fun w => by kernel_rfl
theorem sfP_t3 : Try.prog.underlying (sfP_r.t 3) = some (TypeDesc.int IntKind.i64) := by kernel_rfl
theorem sfP_a3 : ∀ w, (isAgg (sfP_r.t 3)).run Try.prog w = .ok false w := fun w => by kernel_rfl
theorem sfP_z3 : ∀ w, (Go.sizeOf (sfP_r.t 3)).run Try.prog w = .ok 1 w := fun w => by kernel_rfl
theorem sfP_v3 : ∀ w, (zeroValue (sfP_r.t 3)).run Try.prog w = .ok (Value.int IntKind.i64 0) w := fun w => by kernel_rfl
theorem sfP_t4 : Try.prog.underlying (sfP_r.t 4) = some (TypeDesc.bool) := by kernel_rfl
theorem sfP_a4 : ∀ w, (isAgg (sfP_r.t 4)).run Try.prog w = .ok false w := fun w => by kernel_rfl
theorem sfP_z4 : ∀ w, (Go.sizeOf (sfP_r.t 4)).run Try.prog w = .ok 1 w := fun w => by kernel_rfl
theorem sfP_v4 : ∀ w, (zeroValue (sfP_r.t 4)).run Try.prog w = .ok (Value.bool false) w := fun w => by kernel_rfl
theorem sfP_t5 : Try.prog.underlying (sfP_r.t 5) = some (TypeDesc.int IntKind.u8) := by kernel_rfl
theorem sfP_a5 : ∀ w, (isAgg (sfP_r.t 5)).run Try.prog w = .ok false w := fun w => by kernel_rfl
theorem sfP_z5 : ∀ w, (Go.sizeOf (sfP_r.t 5)).run Try.prog w = .ok 1 w := fun w => by kernel_rfl
theorem sfP_v5 : ∀ w, (zeroValue (sfP_r.t 5)).run Try.prog w = .ok (Value.int IntKind.u8 0) w := fun w => by kernel_rfl
theorem sfP_t9 : Try.prog.underlying (sfP_r.t 9) = some (TypeDesc.string) := by kernel_rfl
theorem sfP_a9 : ∀ w, (isAgg (sfP_r.t 9)).run Try.prog w = .ok false w := fun w => by kernel_rfl
theorem sfP_z9 : ∀ w, (Go.sizeOf (sfP_r.t 9)).run Try.prog w = .ok 1 w := fun w => by kernel_rfl
theorem sfP_v9 : ∀ w, (zeroValue (sfP_r.t 9)).run Try.prog w = .ok (Value.string { data := #[] }) w := fun w => by kernel_rfl
theorem sfP_t22 : Try.prog.underlying (sfP_r.t 22) = some (TypeDesc.slice (sfP_r.t 24)) := by kernel_rfl
theorem sfP_a22 : ∀ w, (isAgg (sfP_r.t 22)).run Try.prog w = .ok false w := fun w => by kernel_rfl
theorem sfP_z22 : ∀ w, (Go.sizeOf (sfP_r.t 22)).run Try.prog w = .ok 1 w := fun w => by kernel_rfl
theorem sfP_v22 : ∀ w, (zeroValue (sfP_r.t 22)).run Try.prog w = .ok (Value.slice none 0 0) w := fun w => by kernel_rfl
theorem sfP_t25 : Try.prog.underlying (sfP_r.t 25) = some (TypeDesc.func #[sfP_r.t 24, sfP_r.t 24] #[sfP_r.t 3] false) := by kernel_rfl
theorem sfP_a25 : ∀ w, (isAgg (sfP_r.t 25)).run Try.prog w = .ok false w := fun w => by kernel_rfl
theorem sfP_z25 : ∀ w, (Go.sizeOf (sfP_r.t 25)).run Try.prog w = .ok 1 w := fun w => by kernel_rfl
theorem sfP_v25 : ∀ w, (zeroValue (sfP_r.t 25)).run Try.prog w = .ok (Value.nilFunc) w := fun w => by kernel_rfl
theorem sfP_t39 : Try.prog.underlying (sfP_r.t 39) = some (TypeDesc.int IntKind.u64) := by kernel_rfl
theorem sfP_a39 : ∀ w, (isAgg (sfP_r.t 39)).run Try.prog w = .ok false w := fun w => by kernel_rfl
theorem sfP_z39 : ∀ w, (Go.sizeOf (sfP_r.t 39)).run Try.prog w = .ok 1 w := fun w => by kernel_rfl
theorem sfP_v39 : ∀ w, (zeroValue (sfP_r.t 39)).run Try.prog w = .ok (Value.int IntKind.u64 0) w := fun w => by kernel_rfl
theorem sfP_t45 : Try.prog.underlying (sfP_r.t 45) = some (TypeDesc.int IntKind.i64) := by kernel_rfl
theorem sfP_a45 : ∀ w, (isAgg (sfP_r.t 45)).run Try.prog w = .ok false w := fun w => by kernel_rfl
theorem sfP_z45 : ∀ w, (Go.sizeOf (sfP_r.t 45)).run Try.prog w = .ok 1 w := fun w => by kernel_rfl
theorem sfP_v45 : ∀ w, (zeroValue (sfP_r.t 45)).run Try.prog w = .ok (Value.int IntKind.i64 0) w := fun w => by kernel_rfl
theorem sfP_t46 : Try.prog.underlying (sfP_r.t 46) = some (TypeDesc.tuple #[sfP_r.t 3, sfP_r.t 45]) := by kernel_rfl
theorem sfP_a46 : ∀ w, (isAgg (sfP_r.t 46)).run Try.prog w = .ok false w := fun w => by kernel_rfl
theorem sfP_z46 : ∀ w, (Go.sizeOf (sfP_r.t 46)).run Try.prog w = .ok 1 w := fun w => by kernel_rfl
theorem sfP_v46 : ∀ w, (zeroValue (sfP_r.t 46)).run Try.prog w = .ok (Value.tuple #[Value.int IntKind.i64 0, Value.int IntKind.i64 0]) w := fun w => by kernel_rfl
theorem sfP_t50 : Try.prog.underlying (sfP_r.t 50) = some (TypeDesc.tuple #[sfP_r.t 3, sfP_r.t 4]) := by kernel_rfl
theorem sfP_a50 : ∀ w, (isAgg (sfP_r.t 50)).run Try.prog w = .ok false w := fun w => by kernel_rfl
theorem sfP_z50 : ∀ w, (Go.sizeOf (sfP_r.t 50)).run Try.prog w = .ok 1 w := fun w => by kernel_rfl
theorem sfP_v50 : ∀ w, (zeroValue (sfP_r.t 50)).run Try.prog w = .ok (Value.tuple #[Value.int IntKind.i64 0, Value.bool false]) w := fun w => by kernel_rfl
theorem sfP_t53 : Try.prog.underlying (sfP_r.t 53) = some (TypeDesc.int IntKind.u32) := by kernel_rfl
theorem sfP_a53 : ∀ w, (isAgg (sfP_r.t 53)).run Try.prog w = .ok false w := fun w => by kernel_rfl
theorem sfP_z53 : ∀ w, (Go.sizeOf (sfP_r.t 53)).run Try.prog w = .ok 1 w := fun w => by kernel_rfl
theorem sfP_v53 : ∀ w, (zeroValue (sfP_r.t 53)).run Try.prog w = .ok (Value.int IntKind.u32 0) w := fun w => by kernel_rfl
theorem sfP_t55 : Try.prog.underlying (sfP_r.t 55) = some (TypeDesc.int IntKind.u64) := by kernel_rfl
theorem sfP_a55 : ∀ w, (isAgg (sfP_r.t 55)).run Try.prog w = .ok false w := fun w => by kernel_rfl
theorem sfP_z55 : ∀ w, (Go.sizeOf (sfP_r.t 55)).run Try.prog w = .ok 1 w := fun w => by kernel_rfl
theorem sfP_v55 : ∀ w, (zeroValue (sfP_r.t 55)).run Try.prog w = .ok (Value.int IntKind.u64 0) w := fun w => by kernel_rfl
theorem sfP_t66 : Try.prog.underlying (sfP_r.t 66) = some (TypeDesc.int IntKind.u64) := by kernel_rfl
theorem sfP_a66 : ∀ w, (isAgg (sfP_r.t 66)).run Try.prog w = .ok false w := fun w => by kernel_rfl
theorem sfP_z66 : ∀ w, (Go.sizeOf (sfP_r.t 66)).run Try.prog w = .ok 1 w := fun w => by kernel_rfl
theorem sfP_v66 : ∀ w, (zeroValue (sfP_r.t 66)).run Try.prog w = .ok (Value.int IntKind.u64 0) w := fun w => by kernel_rfl
theorem sfP_t70 : Try.prog.underlying (sfP_r.t 70) = some (TypeDesc.pointer (sfP_r.t 3)) := by kernel_rfl
theorem sfP_a70 : ∀ w, (isAgg (sfP_r.t 70)).run Try.prog w = .ok false w := fun w => by kernel_rfl
theorem sfP_z70 : ∀ w, (Go.sizeOf (sfP_r.t 70)).run Try.prog w = .ok 1 w := fun w => by kernel_rfl
theorem sfP_v70 : ∀ w, (zeroValue (sfP_r.t 70)).run Try.prog w = .ok (Value.pointer none) w := fun w => by kernel_rfl
theorem sfP_t76 : Try.prog.underlying (sfP_r.t 76) = some (TypeDesc.pointer (sfP_r.t 66)) := by kernel_rfl
theorem sfP_a76 : ∀ w, (isAgg (sfP_r.t 76)).run Try.prog w = .ok false w := fun w => by kernel_rfl
theorem sfP_z76 : ∀ w, (Go.sizeOf (sfP_r.t 76)).run Try.prog w = .ok 1 w := fun w => by kernel_rfl
theorem sfP_v76 : ∀ w, (zeroValue (sfP_r.t 76)).run Try.prog w = .ok (Value.pointer none) w := fun w => by kernel_rfl
theorem sfP_t77 : Try.prog.underlying (sfP_r.t 77) = some (TypeDesc.tuple #[sfP_r.t 3, sfP_r.t 3]) := by kernel_rfl
theorem sfP_a77 : ∀ w, (isAgg (sfP_r.t 77)).run Try.prog w = .ok false w := fun w => by kernel_rfl
theorem sfP_z77 : ∀ w, (Go.sizeOf (sfP_r.t 77)).run Try.prog w = .ok 1 w := fun w => by kernel_rfl
theorem sfP_v77 : ∀ w, (zeroValue (sfP_r.t 77)).run Try.prog w = .ok (Value.tuple #[Value.int IntKind.i64 0, Value.int IntKind.i64 0]) w := fun w => by kernel_rfl
theorem sfP_lay : SlLaysF0.n6 Try.prog sfP_r := { mixed := sfP_mixed, f6 := sfP_f6, f14 := sfP_f14, f15 := sfP_f15, f20 := sfP_f20, f21 := sfP_f21, f22 := sfP_f22, f23 := sfP_f23, f24 := sfP_f24, f25 := sfP_f25, f26 := sfP_f26, f27 := sfP_f27, f28 := sfP_f28, f29 := sfP_f29, f46 := sfP_f46, f47 := sfP_f47, f48 := sfP_f48, f49 := sfP_f49, f50 := sfP_f50, f57 := sfP_f57, t0 := sfP_t0, a0 := sfP_a0, z0 := sfP_z0, v0 := sfP_v0, t3 := sfP_t3, a3 := sfP_a3, z3 := sfP_z3, v3 := sfP_v3, t4 := sfP_t4, a4 := sfP_a4, z4 := sfP_z4, v4 := sfP_v4, t5 := sfP_t5, a5 := sfP_a5, z5 := sfP_z5, v5 := sfP_v5, t9 := sfP_t9, a9 := sfP_a9, z9 := sfP_z9, v9 := sfP_v9, t22 := sfP_t22, a22 := sfP_a22, z22 := sfP_z22, v22 := sfP_v22, t25 := sfP_t25, a25 := sfP_a25, z25 := sfP_z25, v25 := sfP_v25, t39 := sfP_t39, a39 := sfP_a39, z39 := sfP_z39, v39 := sfP_v39, t45 := sfP_t45, a45 := sfP_a45, z45 := sfP_z45, v45 := sfP_v45, t46 := sfP_t46, a46 := sfP_a46, z46 := sfP_z46, v46 := sfP_v46, t50 := sfP_t50, a50 := sfP_a50, z50 := sfP_z50, v50 := sfP_v50, t53 := sfP_t53, a53 := sfP_a53, z53 := sfP_z53, v53 := sfP_v53, t55 := sfP_t55, a55 := sfP_a55, z55 := sfP_z55, v55 := sfP_v55, t66 := sfP_t66, a66 := sfP_a66, z66 := sfP_z66, v66 := sfP_v66, t70 := sfP_t70, a70 := sfP_a70, z70 := sfP_z70, v70 := sfP_v70, t76 := sfP_t76, a76 := sfP_a76, z76 := sfP_z76, v76 := sfP_v76, t77 := sfP_t77, a77 := sfP_a77, z77 := sfP_z77, v77 := sfP_v77 }
end

section
set_option linter.all false
set_option maxRecDepth 100000
set_option maxHeartbeats 4000000
open Go.RowKit

abbrev int1 (n : Int) : List Value := [.int .i64 n]
abbrev RdInts := Rd int1 1
theorem RdInts.ne {w : World} {a : Option Addr} {l : List Int} (h : RdInts w a l) {k : Nat} (hk : k < l.length) :
    ∃ b off, a = some ⟨b, off, none⟩ ∧ b < w.heap.size ∧ w.cell? ⟨b, off + k, none⟩ = some (.int .i64 l[k]) := by
  obtain ⟨b, off, ha, hb, hc⟩ := Rd.ne h hk; exact ⟨b, off, ha, hb, by simpa using hc 0 _ rfl⟩
theorem rd_at1 {w : World} {b off : Nat} {l : List Int} (h : RdInts w (some ⟨b, off, none⟩) l) {k : Nat} (hk : k < l.length) {y : Int} (hy : l[k] = y) : w.cell? ⟨b, off + k, none⟩ = some (.int .i64 y) := by
  subst hy; obtain ⟨b', o', ha, _, h1⟩ := RdInts.ne h hk
  cases ha
  exact h1
def orL : List Int → Int
  | [] => 0
  | x :: l => if x ≠ 0 then x else orL l
theorem orL_found {l : List Int} : ∀ {i : Nat} (h : i < l.length), (∀ j, (hj : j < l.length) → j < i → l[j] = 0) → l[i] ≠ 0 → orL l = l[i] := by
  induction l with
  | nil => intro i h; simp at h
  | cons x l ih =>
    intro i h h1 h2; unfold orL
    cases i with
    | zero => simp at h2; simp [h2]
    | succ i =>
      have h0 := h1 0 (by simp) (by omega)
      simp at h0
      simp only [h0, ne_eq, not_true, if_false, List.getElem_cons_succ]
      exact ih (by simpa using h) (fun j hj hji => by have := h1 (j + 1) (by simp; omega) (by omega); simpa using this) (by simpa using h2)
theorem orL_zero {l : List Int} : (∀ j, (hj : j < l.length) → l[j] = 0) → orL l = 0 := by
  induction l with
  | nil => intro _; rfl
  | cons x l ih =>
    intro h; have h0 := h 0 (by simp)
    simp at h0
    unfold orL
    simp only [h0, ne_eq, not_true, if_false]
    exact ih (fun j hj => by have := h (j + 1) (by simp; omega); simpa using this)
def cmpS (a b : ByteArray) : Int := if Op.bytesLess a.toList b.toList then -1 else if Op.bytesLess b.toList a.toList then 1 else 0


set_option maxRecDepth 100000 in
set_option maxHeartbeats 1000000 in
theorem cmpOr_s (a : Option Addr) (c : Nat) (l : List Int) (w : World) (hR : RdInts w a l) (hl : l.length ≤ 1000) :
    Calls Try.prog 27 #[.slice a l.length c] w (fun e w' => e = .returned (.int .i64 (orL l)) ∧ w = w') := by
 have HR := hid hR; clear hR; have hww : w = w := rfl
 refine enter_F Try.func27 rfl Try.ntmps27 (by simp) ?_
 intro s0 hs; have sl0 : s0 0 = .slice a l.length c := hs 0 (by simp); clear hs; have HB := hid (OldB.refl [] w)
 repeat ((fail_if_success refine stp ?_); with_reducible go_step)
 refine region_F ?_; refine pl ?_; refine listF_abs (fun s1 z' => ?_); replace sl0 := gs 0 z' sl0; clear z'; refine listF_nil ?_
 repeat ((fail_if_success refine stp ?_); with_reducible go_step)
 refine region_F ?_; refine pl ?_; refine listF_abs (fun s2 z' => ?_); replace sl0 := gs 0 z' sl0; have sl3 := gu 3 z'; clear z'; refine listF_nil ?_
 repeat ((fail_if_success refine stp ?_); with_reducible go_step)
 refine region_F ?_
 iterate 3 refine pl ?_
 refine listF_abs (fun s3 z' => ?_); replace sl3 := gs 3 z' sl3; have sl6 := gu 6 z'; have sl7 := gu 7 z'; have sl8 := gu 8 z'; clear z' sl0; refine listF_nil ?_
 repeat ((fail_if_success refine stp ?_); with_reducible go_step)
 have hc0_3 := hid sl3; have hc0_6 := hid sl6; have hc0_7 := hid sl7; refine loop_F (n := 18) (fun kJ sJ wJ => ∃ (i : Nat), kJ = l.length - i ∧ sJ 8 = .int .i64 (i : Int) ∧ sJ 3 = s3 3 ∧ sJ 6 = s3 6 ∧ sJ 7 = s3 7 ∧ OldB [] w wJ ∧ i ≤ l.length ∧ Hid (w = wJ) ∧ (Hid (∀ j, (hj : j < l.length) → j < i → l[j] = 0))) ⟨0, rfl, (by first | exact sl8 | (rw [sl8]; go_num) | (rw [sl8]; rfl)), rfl, rfl, rfl, OldB.refl _ _, Nat.zero_le _, hid rfl, hid (fun j hj h => by omega)⟩ ?_; clear sl8; rintro kJ s4 w5 ⟨i, rfl, sl8, e3, e6, e7, hb6, hil, hww, Hz⟩; replace sl3 := e3.trans sl3; clear e3; replace sl6 := e6.trans sl6; clear e6; replace sl7 := e7.trans sl7; clear e7; have hoJ := hb6; replace HB := hid (HB.out.more hb6 (by simp; try omega)); clear hb6; have HoJ := hid hoJ; clear hoJ; have HL7 := HoJ; clear HoJ
 repeat ((fail_if_success refine stp ?_); with_reducible go_step)
 refine region_F ?_; refine pl ?_; refine listF_abs (fun s8 z' => ?_); replace sl3 := gs 3 z' sl3; replace sl6 := gs 6 z' sl6; replace sl7 := gs 7 z' sl7; replace sl8 := gs 8 z' sl8; have sl9 := gu 9 z'; clear z'; refine listF_nil ?_
 repeat ((fail_if_success refine stp ?_); with_reducible go_step)
 refine cond_E sl9 (by decide) ?_ ?_ <;> (clear sl9; intro h9 sl9)
 ·skip
  have hi : i < l.length := by simpa using h9
  have hii : (i : Int) < l.length := by omega
  obtain ⟨bx, ox, hax, hbx, cx⟩ := RdInts.ne (Rd.oldB HR.out HB.out (by simp)) hi; subst hax; obtain ⟨y, hy⟩ : ∃ y, l[i] = y := ⟨_, rfl⟩; rw [hy] at cx; have Hy := hid hy; clear hy
  repeat ((fail_if_success refine stp ?_); with_reducible go_step)
  refine region_F ?_
  iterate 3 refine pl ?_
  refine listF_abs (fun s9 z' => ?_); replace sl3 := gs 3 z' sl3; have sl5 := gu 5 z'; replace sl6 := gs 6 z' sl6; replace sl7 := gs 7 z' sl7; replace sl8 := gs 8 z' sl8; clear z' sl9; refine listF_nil ?_
  repeat ((fail_if_success refine stp ?_); with_reducible go_step)
  refine region_F ?_
  iterate 3 refine pl ?_
  refine listF_abs (fun s10 z' => ?_); replace sl3 := gs 3 z' sl3; replace sl5 := gs 5 z' sl5; replace sl6 := gs 6 z' sl6; replace sl7 := gs 7 z' sl7; replace sl8 := gs 8 z' sl8; have sl14 := gu 14 z'; clear z'; refine listF_nil ?_
  repeat ((fail_if_success refine stp ?_); with_reducible go_step)
  refine cond_E sl14 (by decide) ?_ ?_ <;> (clear sl14; intro h14 sl14)
  ·skip
   have hy0 : ¬ y = 0 := by simpa using h14
   have Hr := hid (show orL l = y by rw [orL_found hi Hz.out (by rw [Hy.out]; exact hy0), Hy.out])
   repeat ((fail_if_success refine stp ?_); with_reducible go_step)
   refine region_F ?_; refine pl ?_; refine pl ?_; refine listF_abs (fun s11 z' => ?_); have sl2 := gu 2 z'; clear z' sl3 sl5 sl6 sl7 sl8 sl14; refine listF_nil ?_
   repeat ((fail_if_success refine stp ?_); with_reducible go_step)
   refine ret_F _ (res_t Try.results27 ((getD_F (by decide)).trans sl2)) ?_; exact ⟨by rw [Hr.out], hww.out⟩
  ·skip
   have hy0 : y = 0 := by simpa using h14
   have Hy0 := hid hy0; clear hy0 h14
   repeat ((fail_if_success refine stp ?_); with_reducible go_step)
   refine region_F ?_; refine pl ?_; refine pl ?_; refine listF_abs (fun s12 z' => ?_); replace sl3 := gs 3 z' sl3; replace sl6 := gs 6 z' sl6; replace sl7 := gs 7 z' sl7; replace sl8 := gu 8 z'; clear z' sl5 sl14; refine listF_nil ?_
   repeat ((fail_if_success refine stp ?_); with_reducible go_step)
   refine ⟨_, _, rfl, ?_, i + 1, rfl, (by first | (with_reducible exact sl8) | (rw [sl8]; (with_reducible go_num); done) | (rw [sl8, IntWalk.i64_in] <;> first | ((with_reducible go_num); done) | omega) | (rw [sl8]; go_num; done) | (rw [sl8]; simp; done) | (rw [sl8]; simp; omega)), (sl3.trans hc0_3.out.symm), (sl6.trans hc0_6.out.symm), (sl7.trans hc0_7.out.symm), HL7.out, by omega, hww, hid (fun j hj h => by rcases Nat.lt_or_ge j i with h3 | h3 <;> first | exact Hz.out j hj h3 | (have e : j = i := (by omega); subst e; rw [Hy.out]; exact Hy0.out))⟩
   omega
 ·skip
  have hi : i = l.length := by have h := h9; simp at h; omega
  have Hr := hid (orL_zero (l := l) (fun j hj => Hz.out j hj (by omega)))
  repeat ((fail_if_success refine stp ?_); with_reducible go_step)
  clear HL7; clear hc0_3 hc0_6 hc0_7; refine region_F ?_; refine pl ?_; refine pl ?_; refine listF_abs (fun s13 z' => ?_); have sl2 := gu 2 z'; clear z' sl3 sl6 sl7 sl8 sl9; refine listF_nil ?_
  repeat ((fail_if_success refine stp ?_); with_reducible go_step)
  refine ret_F _ (res_t Try.results27 ((getD_F (by decide)).trans sl2)) ?_; exact ⟨by rw [Hr.out], hww.out⟩

/-- a world that left old memory alone is one that has grown, behind draws -/
theorem ex_growP {W w' : World} (h : Below W.heap.size W w') (hd : W.drawn ≤ w'.drawn) : ∃ q os', w' = Go.Sort.grow (W.drewN q) os' := by
  refine ⟨w'.drawn - W.drawn, w'.heap.extract W.heap.size w'.heap.size, ?_⟩
  obtain ⟨hp, tp, dr, os, out⟩ := w'
  obtain ⟨hp0, tp0, dr0, os0, out0⟩ := W
  have h1 := h.os; have h2 := h.tape; have h3 := h.output; have h4 := h.size; have h5 := h.block
  simp only at h1 h2 h3 h4 h5 hd
  subst h1; subst h2; subst h3
  have e1 : dr = dr0 + (dr - dr0) := by omega
  have e2 : hp = hp0 ++ hp.extract hp0.size hp.size := by
    apply Array.ext_getElem?
    intro k
    rw [Array.getElem?_append]
    split
    · rename_i hk; exact h5 k hk
    · rename_i hk
      rw [Array.getElem?_extract]
      split
      · congr 1; omega
      · rename_i hk2
        rw [Array.getElem?_eq_none (by omega)]
  show World.mk hp tp dr os out = World.mk (hp0 ++ hp.extract hp0.size hp.size) tp (dr0 + (dr - dr0)) os out
  rw [← e1, ← e2]

theorem idx_div {k j n : Nat} (h : j < n * k) : j / k < n ∧ j % k < k ∧ j / k * k + j % k = j := by
  have hk : 0 < k := by rcases Nat.eq_zero_or_pos k with e | e; subst e; simp at h; exact e
  refine ⟨(Nat.div_lt_iff_lt_mul hk).2 h, Nat.mod_lt _ hk, ?_⟩
  rw [Nat.mul_comm]; exact Nat.div_add_mod j k
theorem flat_inv {β : Type} {f : β → List Value} {k : Nat} (hk : ∀ x, (f x).length = k) : ∀ (l : List β) (t : Nat) (v : Value), (l.flatMap f)[t]? = some v → t < l.length * k
  | [], t, v, h => by simp at h
  | x :: l, t, v, h => by
    rw [List.flatMap_cons] at h
    by_cases ht : t < k
    · rw [List.length_cons, Nat.add_mul, Nat.one_mul]; omega
    · rw [List.getElem?_append_right (by rw [hk]; omega), hk] at h
      have := flat_inv hk l _ _ h
      rw [List.length_cons, Nat.add_mul, Nat.one_mul]; omega
theorem flat_at {β : Type} [Inhabited β] {f : β → List Value} {k : Nat} (hk : ∀ x, (f x).length = k) (l : List β) {t : Nat} (h : t < l.length * k) : (l.flatMap f)[t]? = some (f l.toArray[t / k]!)[t % k]! := by
  obtain ⟨h1, h2, h3⟩ := idx_div h
  have e1 : l.toArray[t / k]! = l[t / k] := by simp [h1]
  have := flat_get f k hk l (t / k) l[t / k] (List.getElem?_eq_getElem h1) (t % k) (f l[t / k])[t % k]! (by rw [getElem!_pos _ _ (by rw [hk]; exact h2)]; exact List.getElem?_eq_getElem _)
  rw [h3] at this
  rw [this, e1]
theorem holds_of_cells {β : Type} [Inhabited β] {f : β → List Value} {k : Nat} (hk : ∀ x, (f x).length = k) {w : World} {b : Nat} {l : List β} (h : Cells w b (l.flatMap f)) : Go.Sort.HoldsK f k w b 0 l.toArray := by
  intro t ht
  rw [Go.Sort.size_flatK] at ht
  have ht' : t < l.length * k := by simpa using ht
  rw [Nat.zero_add]
  refine ⟨?_, h.2.2 t⟩
  rw [h.2.1 t _ (flat_at hk l ht'), Go.Sort.get_flatK _ _ _ _ ht]; rfl
theorem cells_of_holds {β : Type} [Inhabited β] {f : β → List Value} {k : Nat} (hk : ∀ x, (f x).length = k) {w : World} {b : Nat} {d : Array β} (hb : b < w.heap.size) (hf : ∀ o, w.frozen? ⟨b, o, none⟩ = false) (h : Go.Sort.HoldsK f k w b 0 d) : Cells w b (d.toList.flatMap f) := by
  refine ⟨hb, fun t v hv => ?_, hf⟩
  have ht := flat_inv hk _ _ _ hv
  have ht' : t < (Go.Sort.flatK f k d).size := by rw [Go.Sort.size_flatK]; simpa using ht
  have h1 := (h t ht').1
  rw [Nat.zero_add, Go.Sort.get_flatK _ _ _ _ (by simpa using ht)] at h1
  rw [flat_at hk _ ht] at hv
  rw [h1, ← hv]; rfl
theorem sortW_old {β : Type} [Inhabited β] (f : β → List Value) (k : Nat) (w : World) (b n : Nat) (d : Array β) (os : Array Obj) : OldB [b] w (sortWorldK f k w b 0 n d os) ∧ (b < w.heap.size → (∀ o, w.frozen? ⟨b, o, none⟩ = false) → ∀ o, (sortWorldK f k w b 0 n d os).frozen? ⟨b, o, none⟩ = false) := by
  have hsz : (Go.Sort.putRowK f k (Go.Sort.ahead w n) b 0 d).heap.size = w.heap.size := by
    show (Go.Sort.putRow id (Go.Sort.ahead w n) b 0 _).heap.size = _
    rw [Go.Sort.size_putRow]; rfl
  refine ⟨⟨rfl, rfl, rfl, ?_, fun c hc hn => ?_⟩, fun hb hf o => ?_⟩
  · show w.heap.size ≤ ((Go.Sort.putRowK f k (Go.Sort.ahead w n) b 0 d).heap ++ os).size
    rw [Array.size_append, hsz]; omega
  · show ((Go.Sort.putRowK f k (Go.Sort.ahead w n) b 0 d).heap ++ os)[c]? = _
    rw [Array.getElem?_append, if_pos (by rw [hsz]; exact hc)]
    show (w.heap.modify b _)[c]? = _
    rw [Array.getElem?_modify, if_neg (fun e => hn (by simp [e]))]
  · have h1 : (Go.Sort.grow (Go.Sort.putRowK f k (Go.Sort.ahead w n) b 0 d) os).frozen? ⟨b, o, none⟩ = (Go.Sort.putRowK f k (Go.Sort.ahead w n) b 0 d).frozen? ⟨b, o, none⟩ := by
      refine frozBk ?_
      show ((Go.Sort.putRowK f k (Go.Sort.ahead w n) b 0 d).heap ++ os)[b]? = _
      rw [Array.getElem?_append, if_pos (by rw [hsz]; exact hb)]
    show (Go.Sort.grow (Go.Sort.putRowK f k (Go.Sort.ahead w n) b 0 d) os).frozen? ⟨b, o, none⟩ = false
    rw [h1]
    show (Go.Sort.putRow id (Go.Sort.ahead w n) b 0 _).frozen? ⟨b, o, none⟩ = false
    rw [Go.Sort.frozen?_putRow]; exact hf o
theorem perm_of {β : Type} [Inhabited β] {d d' : Array β} (h : Go.Sort.PermIn 0 d.size d d') : d'.toList.Perm d.toList := by
  have h3 := h.2.2
  have e1 : d'.extract 0 d.size = d' := by rw [← h.1]; simp
  have e2 : d.extract 0 d.size = d := by simp
  rwa [e1, e2] at h3
theorem pair_of {β : Type} [Inhabited β] {lt : β → β → Bool} {d : Array β} {n : Nat} (hn : n = d.size) (h : Go.Sort.SortedIn lt 0 n d) : d.toList.Pairwise (fun x y => lt y x = false) := by
  rw [List.pairwise_iff_getElem]
  intro i j hi hj hij
  have := h i j (Nat.zero_le _) hij (by rw [hn]; simpa using hj)
  rw [getElem!_pos d j (by simpa using hj), getElem!_pos d i (by simpa using hi)] at this
  simpa using this
/-- slices.SortFunc, over cells -/
theorem sort_row {P : Program} {ρ : Go.Shelf.Ren} {β : Type} [Inhabited β] (L : SlLaysF0.n6 P ρ) (k : Nat) (aE : ∀ w, (isAgg (ρ.t 24)).run P w = .ok true w) (zE : ∀ w, (Go.sizeOf (ρ.t 24)).run P w = .ok k w) (f : β → List Value) (hk : ∀ x, (f x).length = k) (h1 : ∀ x, ∀ v ∈ f x, v.oneCell' = true) (cf : β → β → Int) (hO : Go.Sort.SWO (ltOf cf)) (g : Nat) (cb : Array Value)
    (eg : ∀ args w, (callFunc g args).run P w = .ok (.enter g args) w) (hcmp : ∀ x y W, Calls P g (#[.agg (f x).toArray, .agg (f y).toArray] ++ cb) W fun e w' => e = .returned (.int .i64 (cf x y)) ∧ ∃ q os', w' = Go.Sort.grow (W.drewN q) os') (b cap : Nat) (l : List β) (w : World) (hC : Cells w b (l.flatMap f)) (hsz : l.length < 4611686018427387904) :
    Calls P (ρ.f 6) #[.slice (some ⟨b, 0, none⟩) l.length cap, .func (.func g) #[] cb] w fun e w' => e = .returned (.tuple #[]) ∧ ∃ m : List β, m.Perm l ∧ m.Pairwise (fun x y => ltOf cf y x = false) ∧ Cells w' b (m.flatMap f) ∧ OldB [b] w w' := by
  have hH := holds_of_cells hk hC
  have hb := hC.1
  have := AnyQ.slices_SortFunc L k aE zE f hk h1 cf hO g cb b 0 cap l.toArray w eg (fun _ _ _ _ x y => hcmp x y _) hH hb (by simpa using hsz)
  rw [List.size_toArray] at this
  refine this.mono ?_
  rintro e w' ⟨rfl, d', n, os, hp, hs, rfl⟩
  have hp' : Go.Sort.PermIn 0 l.toArray.size l.toArray d' := by rw [List.size_toArray]; exact hp
  have hsd : d'.size = l.toArray.size := hp.1
  obtain ⟨ho, hfz⟩ := sortW_old f k w b n d' os
  refine ⟨rfl, d'.toList, perm_of hp', pair_of (by rw [hsd, List.size_toArray]) hs, ?_, ho⟩
  refine cells_of_holds hk (Nat.lt_of_lt_of_le hb ho.size) (hfz hb hC.2.2) ?_
  exact SWK.holds ⟨n, os, rfl⟩ hb hH hsd


/-- numbers of a pair that the comparison can tell -/
def LaB (x : LaP) : Prop := (-1000000 ≤ x.path ∧ x.path ≤ 1000000) ∧ (-1000000 ≤ x.fr ∧ x.fr ≤ 1000000) ∧ (-1000000 ≤ x.tt ∧ x.tt ≤ 1000000)
def cmpP (x y : LaP) : Int := orL [x.path - y.path, x.fr - y.fr, y.tt - x.tt]
theorem sort1_ex (x y : LaP) (hx : LaB x) (hy : LaB y) (W : World) : Calls Try.prog 50 #[.agg #[.int .i64 x.path, .int .i64 x.fr, .int .i64 x.tt], .agg #[.int .i64 y.path, .int .i64 y.fr, .int .i64 y.tt]] W fun e w' => e = .returned (.int .i64 (cmpP x y)) ∧ ∃ q os', w' = Go.Sort.grow (W.drewN q) os' := by
  obtain ⟨⟨a1, a2⟩, ⟨a3, a4⟩, a5, a6⟩ := hx; obtain ⟨⟨b1, b2⟩, ⟨b3, b4⟩, b5, b6⟩ := hy; have w1 : IntKind.i64.wrap (x.path - y.path) = x.path - y.path := IntWalk.i64_in _ (by omega); have w2 : IntKind.i64.wrap (x.fr - y.fr) = x.fr - y.fr := IntWalk.i64_in _ (by omega); have w3 : IntKind.i64.wrap (y.tt - x.tt) = y.tt - x.tt := IntWalk.i64_in _ (by omega)
  have hcon : ∀ (B : Nat) (T : TypeId) (W' : World), B = W'.heap.size → Calls Try.prog 27 #[.slice (some ⟨B, 0, none⟩) 3 3] (W'.alloc (.cells #[.int .i64 (x.path - y.path), .int .i64 (x.fr - y.fr), .int .i64 (y.tt - x.tt)] T)) fun e w' => e = .returned (.int .i64 (cmpP x y)) ∧ W'.alloc (.cells #[.int .i64 (x.path - y.path), .int .i64 (x.fr - y.fr), .int .i64 (y.tt - x.tt)] T) = w' := by
    intro B T W' hB; subst hB; exact cmpOr_s (some ⟨W'.heap.size, 0, none⟩) 3 [x.path - y.path, x.fr - y.fr, y.tt - x.tt] _ (Cells.rd (f := int1) (m := 1) (fun _ => rfl) (Cells.newL (l := [.int .i64 (x.path - y.path), .int .i64 (x.fr - y.fr), .int .i64 (y.tt - x.tt)]))) (by simp)
  clear a1 a2 a3 a4 a5 a6 b1 b2 b3 b4 b5 b6
  generalize cmpP x y = r at hcon ⊢
  go_enter Try.func50, Try.ntmps50
  go_wp2_with (go_at_call 27; refine (hcon _ _ _ (by simp)).mono ?_; rintro e w' ⟨rfl, rfl⟩)
  go_ret
  exact ⟨rfl, 0, _, by rw [Go.Sort.alloc_eq_grow, Go.Sort.alloc_eq_grow, Go.Sort.alloc_eq_grow, Go.Sort.grow_grow, Go.Sort.grow_grow]; rfl⟩
end

section
set_option linter.all false
set_option pp.maxSteps 100000
set_option maxRecDepth 100000
set_option maxHeartbeats 4000000
open Go.RowKit

abbrev LaS := {x : LaP // LaB x}
instance : Inhabited LaS := ⟨⟨⟨0, 0, 0⟩, by simp [LaB]⟩⟩
theorem ltP_eq (x y : LaP) : decide (cmpP x y < 0) = ltP x y := by
  rw [Bool.eq_iff_iff, decide_eq_true_eq, ltP_iff]; unfold cmpP orL orL orL orL
  by_cases h1 : x.path - y.path = 0 <;> by_cases h2 : x.fr - y.fr = 0 <;> by_cases h3 : y.tt - x.tt = 0 <;> simp [h1, h2, h3] <;> omega
theorem ltS_eq (x y : LaS) : ltOf (fun a b : LaS => cmpP a.1 b.1) x y = ltP x.1 y.1 := ltP_eq x.1 y.1
theorem swoP : Go.Sort.SWO (ltOf (fun a b : LaS => cmpP a.1 b.1)) where
  irrefl x := by rw [ltS_eq, ltP_false]; omega
  trans x y z h1 h2 := by rw [ltS_eq] at *; rw [ltP_iff] at *; omega
  ntrans x y z h1 h2 := by rw [ltS_eq] at *; rw [ltP_false] at *; omega
theorem pmap_val {β : Type} {p : β → Prop} : ∀ (l : List β) (h : ∀ x ∈ l, p x), (l.pmap Subtype.mk h).map Subtype.val = l := by
  intro l h; rw [List.map_pmap]; simp
theorem flat_map {β : Type} {p : β → Prop} (f : β → List Value) : ∀ (l : List {x // p x}), l.flatMap (fun x => f x.1) = (l.map Subtype.val).flatMap f
  | [] => rfl
  | x :: l => by rw [List.flatMap_cons, List.map_cons, List.flatMap_cons, flat_map f l]
theorem sortF_cells (b cap : Nat) (l : List LaP) (w : World) (hl : ∀ x ∈ l, LaB x) (hC : Cells w b (l.flatMap LaP.cs)) (hsz : l.length ≤ 100000) :
    Calls Try.prog 49 #[.slice (some ⟨b, 0, none⟩) l.length cap, .func (.func 50) #[] #[]] w (fun e w' => e = .returned (.tuple #[]) ∧ Cells w' b ((srtP l).flatMap LaP.cs) ∧ OldB [b] w w') := by
  have hC' : Cells w b ((l.pmap Subtype.mk hl).flatMap (fun x : LaS => LaP.cs x.1)) := by rw [flat_map, pmap_val]; exact hC
  have hlen : (l.pmap Subtype.mk hl).length = l.length := by simp
  have := sort_row (β := LaS) sfP_lay 3 (fun w => by kernel_rfl) (fun w => by kernel_rfl) (fun x => LaP.cs x.1) (fun _ => rfl) (fun x => LaP.one x.1) (fun a b => cmpP a.1 b.1) swoP 50 #[] (fun _ _ => rfl) (fun x y W => by rw [Array.append_empty]; exact sort1_ex x.1 y.1 x.2 y.2 W) b cap (l.pmap Subtype.mk hl) w hC' (by rw [hlen]; omega)
  rw [hlen] at this
  refine Calls.mono (h := this) ?_
  rintro e w' ⟨rfl, m, hp, hs, hc, ho⟩
  have e : m.map Subtype.val = srtP l := by
    refine srtP_eq ?_ ?_
    · have := hp.map Subtype.val; rwa [pmap_val] at this
    · unfold SrtP; rw [List.pairwise_map]; exact hs.imp (fun h => by rw [ltS_eq] at h; exact h)
  refine ⟨rfl, ?_, ho⟩
  rw [← e, ← flat_map]; exact hc
theorem bitsLen0 (w : World) : Calls Try.prog 64 #[.int .u64 0] w fun e w' => e = .returned (.int .i64 ((Lib.bitLen 0 : Nat) : Int)) ∧ Below w.heap.size w w' := by
  have h := Any.bits_Len (SlLaysF0.n15.bits (P := Try.prog) (ρ := sfP_r) { sfP_lay with }) (0 : Int) w (by omega) (by omega)
  exact h.mono fun e w' h => ⟨h.1, h.2 ▸ Below.refl _ _⟩
theorem insNil_v (q : Value) (w : World) : Calls Try.prog 76 #[.slice none 0 0, .int .i64 0, .int .i64 0, q] w (fun e w' => e = .returned (.tuple #[]) ∧ Below w.heap.size w w') := by
  refine go_in Try.func76 rfl Try.ntmps76 [] [] (Mem.start _) ?_
  refine go ?_
  refine go_loop (X := Unit) (fun _ => True) (fun _ => 0) (fun _ => [(8, .int .i64 1)]) (fun _ => []) () [0, 1, 2] trivial ⟨fun g => rfl, trivial⟩ sb (fun i hi => ?_)
  refine go ?_
  exact end0 (fun w' hw => ⟨rfl, hw.below⟩)
theorem pdqNil_v (q : Value) (n : Int) (w : World) : Calls Try.prog 63 #[.slice none 0 0, .int .i64 0, .int .i64 0, .int .i64 n, q] w (fun e w' => e = .returned (.tuple #[]) ∧ Below w.heap.size w w') := by
  refine go_in Try.func63 rfl Try.ntmps63 [] [] (Mem.start _) ?_
  refine go ?_
  refine go_loop (X := Unit) (fun _ => True) (fun _ => 0) (fun _ => [(1, .int .i64 0), (2, .int .i64 0), (0, .slice none 0 0), (4, q)]) (fun _ => []) () [] trivial ⟨fun g => rfl, fun g => rfl, fun g => rfl, fun g => rfl, trivial⟩ sb (fun i hi => ?_)
  refine go ?_
  refine GoL.cv (fun w' hw => insNil_v q w') ?_
  refine go ?_
  exact end0 (fun w' hw => ⟨rfl, hw.below⟩)
theorem sortNil_v (q : Value) (w : World) : Calls Try.prog 49 #[.slice none 0 0, q] w (fun e w' => e = .returned (.tuple #[]) ∧ Below w.heap.size w w') := by
  refine go_in Try.func49 rfl Try.ntmps49 [] [] (Mem.start _) ?_
  refine go ?_
  refine GoL.cv (fun w' hw => bitsLen0 w') ?_
  refine go ?_
  refine GoL.cv (fun w' hw => pdqNil_v q _ w') ?_
  refine go ?_
  exact end0 (fun w' hw => ⟨rfl, hw.below⟩)
theorem sortF_v {w0 w : World} {Bs : List Nat} {F : List En} (l : List LaP) (a : Option Addr) (c : Nat) (hm : Mem w0 Bs (.own LaP.cs 3 38 (.slice a l.length c) l :: F) w) (hl : ∀ x ∈ l, LaB x) (hn : l.length ≤ 100000) :
    Calls Try.prog 49 #[.slice a l.length c, .func (.func 50) #[] #[]] w (fun e w' => ∃ u : Unit, e = .returned (.tuple #[]) ∧ Mem w0 Bs (.rd LaP.cs 3 a (srtP l) :: F) w') := by
  have ho := hm.own .here
  obtain ⟨_, ⟨hs, hl0⟩ | ⟨g, cap, cur, hs, _⟩⟩ := ho
  · simp only [Value.slice.injEq] at hs
    obtain ⟨rfl, h2, rfl⟩ := hs
    obtain rfl : l = [] := List.eq_nil_of_length_eq_zero h2
    refine (sortNil_v _ w).mono fun e w' ⟨he, hb⟩ => ⟨(), he, (hm.call hb).to .here fun S hS => ⟨fun b h => absurd rfl h, .inl rfl⟩⟩
  · simp only [Value.slice.injEq] at hs
    obtain ⟨rfl, h2, rfl⟩ := hs
    have hc : Cells w g (l.flatMap LaP.cs) := (hm.own .here).toCells
    refine (sortF_cells g c l w hl hc hn).mono fun e w' ⟨he, h1, hb⟩ => ⟨(), he, hm.rep .here fun S hS hlt => ?_⟩
    have hg : S g := hS.1 g rfl
    refine ⟨hb.os, hb.tape, hb.output, hb.size, fun k hk hn => hb.block k hk (fun e => hn (by rw [List.mem_singleton.1 e]; exact hg)), fun b _ hb' => ?_, Cells.rd (f := LaP.cs) (m := 3) (fun _ => rfl) h1⟩
    cases hb'
    exact ⟨.inl hg, Nat.lt_of_lt_of_le hc.1 hb.size⟩
theorem sort_v {w0 w : World} {Bs : List Nat} {F : List En} (l : List LaP) (a : Option Addr) (c : Nat) (hm : Mem w0 Bs (.own LaP.cs 3 38 (.slice a l.length c) l :: F) w) (hl : ∀ x ∈ l, LaB x) (hn : l.length ≤ 100000) :
    Calls Try.prog 24 #[.slice a l.length c] w (fun e w' => ∃ u : Unit, e = .returned (.slice a l.length c) ∧ Mem w0 Bs (.rd LaP.cs 3 a (srtP l) :: F) w') := by
  refine go_in0 Try.func24 rfl Try.ntmps24 hm ?_
  refine go ?_
  refine GoL.cm (fun w' hw => sortF_v l a c hw hl hn) (fun _ => ?_)
  refine go ?_
  exact end1 (fun w' hw => ⟨(), rfl, hw⟩)
end

section
set_option linter.all false
set_option pp.maxSteps 100000
set_option maxRecDepth 100000
set_option maxHeartbeats 4000000
open Go.RowKit

def evsE (t : TD) (i : Nat) : List Evt := lx (openE t) i
def itE (t : TD) (i k : Nat) : Int := (lx (evsE t i) k).item
/-- the pairs of a path's proof -/
def pathPr (t : TD) (i : Nat) : List LaP := (prsL (itE t i) (evsE t i).length).map fun q => LaP.mk i q.1 q.2
def pairsTo (t : TD) : Nat → List LaP
  | 0 => []
  | i + 1 => pairsTo t i ++ pathPr t i
def boundTo (t : TD) : Nat → Int
  | 0 => 0
  | i + 1 => boundTo t i + (lx t.ps i).cnt * Dv (itE t i) 0 ((evsE t i).length - 1)
def boundL (t : TD) : List LaP := srtP (pairsTo t t.ps.length)
def boundN (t : TD) : Int := boundTo t t.ps.length
theorem evs_eq {x : PD} (he : x.es.map (·.l) = openE x.t) {i : Nat} (hi : i < x.es.length) : (lx x.es i).l = evsE x.t i := by rw [evsE, ← he, lx_map hi]
theorem pathPr_ok {t : TD} {i : Nat} (h : 1 ≤ (evsE t i).length ∧ (evsE t i).length ≤ 93) : (pathPr t i).length ≤ 183 ∧ ∀ p ∈ pathPr t i, p.path = i ∧ 0 ≤ p.fr ∧ p.fr < p.tt ∧ p.tt < (evsE t i).length := by
  constructor
  · have := prs_len (it := itE t i) (2 * (evsE t i).length) true 0 ((evsE t i).length - 1) (Nat.zero_le _) (fun h => by cases h)
    simp only [if_true] at this
    simp only [pathPr, List.length_map, prsL]; omega
  · intro p hp
    obtain ⟨q, hq, rfl⟩ := List.mem_map.1 hp
    have := prs_ok (it := itE t i) _ true 0 ((evsE t i).length - 1) (Nat.zero_le _) (fun h => by cases h) q hq
    refine ⟨rfl, ?_, ?_, ?_⟩ <;> dsimp only <;> omega
theorem pairsTo_ok {t : TD} : ∀ n, (∀ i, i < n → 1 ≤ (evsE t i).length ∧ (evsE t i).length ≤ 93) → (pairsTo t n).length ≤ 183 * n ∧ ∀ p ∈ pairsTo t n, 0 ≤ p.path ∧ p.path < n ∧ 0 ≤ p.fr ∧ p.fr < p.tt ∧ p.tt < (evsE t p.path.toNat).length
  | 0, _ => ⟨by simp [pairsTo], fun p hp => by simp [pairsTo] at hp⟩
  | n + 1, h => by
    have ih := pairsTo_ok n fun i hi => h i (by omega)
    have h1 := pathPr_ok (h n (by omega))
    refine ⟨by simp only [pairsTo, List.length_append]; omega, fun p hp => ?_⟩
    rcases List.mem_append.1 hp with hp | hp
    · have := ih.2 p hp; exact ⟨this.1, by omega, this.2.2⟩
    · have := h1.2 p hp
      have e : p.path.toNat = n := by omega
      rw [e]; omega
theorem boundTo_bd {t : TD} : ∀ n, (∀ i, i < n → (1 ≤ (evsE t i).length ∧ (evsE t i).length ≤ 93) ∧ 1 ≤ (lx t.ps i).cnt ∧ (lx t.ps i).cnt ≤ 1000) → 0 ≤ boundTo t n ∧ boundTo t n ≤ 2000000 * n
  | 0, _ => by simp [boundTo]
  | n + 1, h => by
    have ih := boundTo_bd n fun i hi => h i (by omega)
    have h1 := h n (by omega)
    have h2 := Dv_bd (it := itE t n) (y := (evsE t n).length - 1) (by omega) 0
    have h3 : 0 ≤ (lx t.ps n).cnt * Dv (itE t n) 0 ((evsE t n).length - 1) := Int.mul_nonneg (by omega) h2.1
    have h4 : (lx t.ps n).cnt * Dv (itE t n) 0 ((evsE t n).length - 1) ≤ 1000 * 2000 := Int.mul_le_mul h1.2.2 h2.2 h2.1 (by omega)
    simp only [boundTo]; push_cast; omega
theorem Bound_bad (t : TD) (p i e : Int) (w : World) (hn : t.Len) (hT : t.At w) (hr : chkL t = (p, i, e)) (he : ¬ e = 0) :
    Calls Try.prog 10 #[.agg #[.slice t.ao t.os.length t.co, .int .i64 t.data, .int .i64 t.lines, .slice t.ap t.ps.length t.cp]] w (fun e' w' => e' = .returned (.tuple #[.slice none 0 0, .int .i64 0, .int .i64 e]) ∧ Below w.heap.size w w') := by
  refine go_in Try.func10 rfl Try.ntmps10 [] [] (Mem.start _) ?_
  refine go ?_
  refine GoL.a (fun b1 => ?_)
  refine go ?_
  refine GoL.cv (fun w' hw => open_bad t p i e w' hn (hT.old hw) hr he) ?_
  refine go ?_
  refine go_if (fun h => ?_) (fun h => ?_)
  rotate_left
  · exact absurd h he
  refine go ?_
  exact ev3 ⟨rfl, rfl, rfl⟩
theorem Bound_ok (t : TD) (p i : Int) (w : World) (hn : t.Len) (hT : t.At w) (hr : chkL t = (p, i, 0)) :
    Calls Try.prog 10 #[.agg #[.slice t.ao t.os.length t.co, .int .i64 t.data, .int .i64 t.lines, .slice t.ap t.ps.length t.cp]] w (Ret (fun q : Option Addr × Nat => .tuple #[.slice q.1 (boundL t).length q.2, .int .i64 (boundN t), .int .i64 0]) (fun q => [.rd LaP.cs 3 q.1 (boundL t)]) w) := by
  refine go_in Try.func10 rfl Try.ntmps10 [] [] (Mem.start _) ?_
  refine go ?_
  refine GoL.a (fun b1 => ?_)
  refine go ?_
  refine GoL.c (fun w' hw => open_ok t p i w' hn (hT.old hw) hr) (fun x => ?_)
  obtain ⟨x, b⟩ := x
  refine GoL.pure (fun hx => ?_)
  dsimp only at hx ⊢
  obtain ⟨rfl, hes, hcap⟩ := hx
  have hok := plan_ok (chkL_ok hr) hes hcap
  have hxl := hid hok.e1
  have hp1 := hok.p1
  have htp := hT.p
  have hev : ∀ i, i < x.t.ps.length → (lx x.es i).l = evsE x.t i := fun i hi => evs_eq hes (by have := hxl.out; omega)
  have hel : ∀ i, i < x.t.ps.length → 1 ≤ (evsE x.t i).length ∧ (evsE x.t i).length ≤ 93 := fun i hi => by
    have h1 : evsE x.t i = pathE x.t.os (lx x.t.ps i).os := by rw [evsE, openE, lx_map hi]
    rw [h1]; exact pathE_len _ _ (wildL_ok ((chkL_ok hr).w _ (lx_mem hi))).1.2
  have hcn : ∀ i, i < x.t.ps.length → 1 ≤ (lx x.t.ps i).cnt ∧ (lx x.t.ps i).cnt ≤ 1000 := fun i hi => hok.cnt _ (lx_mem hi)
  refine go ?_
  refine GoC.mem (fun w hw => Mem.own0 LaP.cs 3 38 hw) ?_
  refine go_loop (X := Nat × Option Addr × Nat) (fun q => q.1 ≤ x.t.ps.length) (fun q => x.t.ps.length - q.1) (fun q => [(20, .int .i64 q.1), (2, .slice q.2.1 (pairsTo x.t q.1).length q.2.2), (3, .int .i64 (boundTo x.t q.1))])
    (fun q => [.own LaP.cs 3 38 (.slice q.2.1 (pairsTo x.t q.1).length q.2.2) (pairsTo x.t q.1), .plan x b, .cells b1 [.slice x.t.ao x.t.os.length x.t.co, .int .i64 x.t.data, .int .i64 x.t.lines, .slice x.t.ap x.t.ps.length x.t.cp]]) (0, none, 0) [1, 4, 5, 18, 19] (Nat.zero_le _) (by simp [AgreeL, At, pairsTo, boundTo]) sb (fun q hq => ?_)
  obtain ⟨k, al, cl⟩ := q
  dsimp only at hq ⊢
  refine go ?_
  refine go_if (fun h => ?_) (fun h => ?_)
  · have hk : k < x.t.ps.length := by omega
    have hE := hel k hk
    refine go ?_
    refine GoL.a (fun b7 => ?_)
    refine go ?_
    refine GoL.c (fun w' hw => prove_v x b k w' (hw.plan pk (hT.old hw)) hok (by have := hxl.out; omega)) (fun r => ?_)
    obtain ⟨b8, bd, br⟩ := r
    have hb1 := boundTo_bd k fun i hi => ⟨hel i (by omega), hcn i (by omega)⟩
    have hpl := pairsTo_ok k fun i hi => hel i (by omega)
    obtain ⟨X, hX⟩ : ∃ X : PR, X = ⟨(lx x.es k).l, (lx x.es k).a, (lx x.es k).c, bd, br, (k : Int)⟩ := ⟨_, rfl⟩
    have el : (lx x.es k).l = X.l := by rw [hX]
    have ea : (lx x.es k).a = X.ae := by rw [hX]
    have ec : (lx x.es k).c = X.ce := by rw [hX]
    have ed : bd = X.bd := by rw [hX]
    have er : br = X.br := by rw [hX]
    have ei : (k : Int) = X.idx := by rw [hX]
    have eE : X.l = evsE x.t k := by rw [← el, hev k hk]
    have HE := hid eE
    have hXl : 1 ≤ X.l.length ∧ X.l.length ≤ 93 := by rw [eE]; exact hE
    have hrd : ∀ w', Mem w [] [.cells b7 [.slice (lx x.t.ps k).a (lx x.t.ps k).os.length (lx x.t.ps k).c, .int .i64 (lx x.t.ps k).cnt], .own LaP.cs 3 38 (.slice al (pairsTo x.t k).length cl) (pairsTo x.t k), .plan x b, .cells b1 [.slice x.t.ao x.t.os.length x.t.co, .int .i64 x.t.data, .int .i64 x.t.lines, .slice x.t.ap x.t.ps.length x.t.cp]] w' → Rd Evt.cs 2 w' X.ae X.l := fun w' hw => by
      rw [← el, ← ea]; exact (hw.plan pk (hT.old hw)).q _ (lx_mem (by have := hxl.out; omega))
    refine GoL.mem (H' := .cells b8 (X.cs (.slice none 0 0)) :: .map2 X.bd (100 * X.l.length) (dF X.it X.l.length) :: .map2 X.br (100 * X.l.length) (rF X.it X.l.length) :: [.cells b7 [.slice (lx x.t.ps k).a (lx x.t.ps k).os.length (lx x.t.ps k).c, .int .i64 (lx x.t.ps k).cnt], .own LaP.cs 3 38 (.slice al (pairsTo x.t k).length cl) (pairsTo x.t k), .plan x b, .cells b1 [.slice x.t.ao x.t.os.length x.t.co, .int .i64 x.t.data, .int .i64 x.t.lines, .slice x.t.ap x.t.ps.length x.t.cp]]) (fun w' hw => by rw [hX]; exact hw) ?_
    have HX := hid (show wrP X (prsL X.it X.l.length) = pathPr x.t k by
      unfold wrP pathPr
      rw [← ei]
      have : X.it = itE x.t k := by funext j; show (lx X.l j).item = _; rw [eE]; rfl
      rw [this, eE])
    have HD := hid (show Dv X.it 0 (X.l.length - 1) = Dv (itE x.t k) 0 ((evsE x.t k).length - 1) by
      have : X.it = itE x.t k := by funext j; show (lx X.l j).item = _; rw [eE]; rfl
      rw [this, eE])
    clear hX el ea ec ed er ei eE
    refine go ?_
    refine GoL.cm (fun w' hw => write_v X b8 _ ⟨hXl.1, by omega⟩ hrd hw) (fun pw => ?_)
    obtain ⟨ap, cap⟩ := pw
    rw [HX.out]
    have hpp := pathPr_ok hE
    dsimp only
    have hcb := hcn k hk
    have hdb := Dv_bd (it := X.it) (y := X.l.length - 1) (by omega) 0
    have hm1 : 0 ≤ (lx x.t.ps k).cnt * Dv X.it 0 (X.l.length - 1) := Int.mul_nonneg (by omega) hdb.1
    have hm2 : (lx x.t.ps k).cnt * Dv X.it 0 (X.l.length - 1) ≤ 1000 * 2000 := Int.mul_le_mul hcb.2 hdb.2 hdb.1 (by omega)
    refine go ?_
    refine GoL.sl (Ef.app (f := LaP.cs) (l := pairsTo x.t k) (l2 := pathPr x.t k) (v := .slice al (pairsTo x.t k).length cl) elP (fun _ => rfl) LaP.one (by omega) pk (fun w hw => hw.ownRd pk)) (fun a2 c2 => ?_)
    refine go ?_
    refine D.q ⟨_, fun Y F => Ex.mg (b := X.bd) (φ := dF X.it X.l.length) (i := 0) (j := X.l.length - 1) (by omega) (by omega) (fun w hw => ⟨_, hw.mapI pk⟩) (hy := by intro g; simp only [evF_tmp, tab_cons, Nat.reduceLT, Nat.reduceEqDiff, ↓reduceIte]; rw [show ((X.l.length : Int) - 1) = ((X.l.length - 1 : Nat) : Int) by omega]; rfl), ?_⟩
    rw [dF_at (show X.l.length - 1 < X.l.length by omega)]
    refine D.q ⟨_, (fun X F => exs), ?_⟩
    refine D.nil0 ⟨_, by intro X; rfl, ⟨by kernel_rfl, by kernel_rfl⟩, by decide +kernel, ?_⟩
    refine go ?_
    have hPT : pairsTo x.t k ++ pathPr x.t k = pairsTo x.t (k + 1) := rfl
    rw [hPT]
    refine go_again (k + 1, a2, c2) ?_ ?_ ?_ sb
    · dsimp only; omega
    · dsimp only; omega
    · have := HD.out
      simp [AgreeL, At, boundTo, pairsTo, this]
  · obtain rfl : k = x.t.ps.length := by omega
    have hpl := pairsTo_ok x.t.ps.length hel
    refine go ?_
    refine GoL.cm (fun w' hw => sort_v (pairsTo x.t x.t.ps.length) al cl hw (fun p hp => ?_) (by omega)) (fun _ => ?_)
    · have h1 := hpl.2 p hp
      have h2 := hel p.path.toNat (by omega)
      unfold LaB; omega
    refine go ?_
    refine end3 (fun w' hw => ⟨(al, cl), ?_, hw.done sb⟩)
    rw [show (boundL x.t).length = (pairsTo x.t x.t.ps.length).length from srtP_len _]; rfl
end

section
set_option linter.all false
set_option pp.maxSteps 100000
set_option maxRecDepth 100000
set_option maxHeartbeats 4000000
open Go.RowKit

theorem cloneP_v (l : List LaP) (a : Option Addr) (c : Nat) (w : World) (hl : Rd LaP.cs 3 w a l) (hn : l.length ≤ 100000) :
    Calls Try.prog 32 #[.slice a l.length c] w (Ret (fun p : Option Addr × Nat => .slice p.1 l.length p.2) (fun p => [.own LaP.cs 3 38 (.slice p.1 l.length p.2) l]) w) := by
  refine go_in Try.func32 rfl Try.ntmps32 [] [] (Mem.start _) ?_
  cases a with
  | none =>
    have h0 : l = [] := by
      rcases hl with h | ⟨b, off, h, _⟩
      · exact h
      · cases h
    subst h0
    refine go ?_
    refine end1 ?_
    exact fun w' hw => ⟨(none, 0), rfl, (Mem.own0 LaP.cs 3 38 hw).done sb⟩
  | some ad =>
    refine go ?_
    refine GoL.sl (Ef.lit (f := LaP.cs) (m := 3) (e := 38) [] (fun _ => rfl) rfl) (fun a0 c0 => ?_)
    refine go ?_
    refine GoL.sl (Ef.app (f := LaP.cs) (l := []) (l2 := l) elP (fun _ => rfl) LaP.one (by simp only [List.length_nil]; omega) pk (fun w hw => hw.old hl)) (fun a1 c1 => ?_)
    rw [List.nil_append]
    refine go ?_
    refine end1 ?_
    exact fun w' hw => ⟨(a1, c1), rfl, hw.done sb⟩
/-- the error of a pair -/
def judgeP (t : TD) (p : LaP) : Int :=
  if outP p.path 0 ((t.ps.length : Int) - 1) then 4 else if outP p.fr 0 (((evsE t p.path.toNat).length : Int) - 1) ∨ outP p.tt 0 (((evsE t p.path.toNat).length : Int) - 1) then 4
  else if p.tt ≤ p.fr ∨ ¬ itE t p.path.toNat p.fr.toNat = itE t p.path.toNat p.tt.toNat then 2 else 0
def judgeL (t : TD) (l : List LaP) : Int := match firstBad (fun i => judgeP t (lx l i)) l.length with
  | some i => judgeP t (lx l i)
  | none => 0
theorem judge_v (x : PD) (b : Nat) (l : List LaP) (a : Option Addr) (c : Nat) (w : World) (hx : x.At b w) (ho : x.Ok) (hes : x.es.map (·.l) = openE x.t) (hl : Rd LaP.cs 3 w a l) (hn : l.length ≤ 100000) :
    Calls Try.prog 31 #[.pointer (some ⟨b, 0, none⟩), .slice a l.length c] w (fun e w' => e = .returned (.int .i64 (judgeL x.t l)) ∧ Below w.heap.size w w') := by
  have hc := hx.c
  have hev := hx.e
  have hp1 := ho.p1
  have HE := hid ho.e1
  refine go_in Try.func31 rfl Try.ntmps31 [] [] (Mem.start _) ?_
  refine go ?_
  refine go_loop (X := Nat) (fun k => k ≤ l.length ∧ ∀ j, j < k → judgeP x.t (lx l j) = 0) (fun k => l.length - k) (fun k => [(11, .int .i64 k)]) (fun _ => []) 0 [0, 1, 9, 10] ⟨Nat.zero_le _, fun j hj => by omega⟩ ⟨fun g => rfl, trivial⟩ sb (fun k hk => ?_)
  refine go ?_
  refine go_if (fun h => ?_) (fun h => ?_)
  · have h5 : k < l.length := by omega
    have hfb : ∀ e, judgeP x.t (lx l k) = e → ¬ e = 0 → judgeL x.t l = e := fun e he h0 => by
      rw [judgeL, firstBad_some h5 (by rw [he]; exact h0) hk.2]; exact he
    generalize hp : lx l k = p at hfb
    refine go ?_
    rw [hp]
    refine GoL.a (fun b6 => ?_)
    refine go ?_
    refine GoL.cv (fun w' hw => out_v _ _ _ w') ?_
    refine go ?_
    refine go_if (fun h2 => ?_) (fun h2 => ?_)
    · refine go ?_
      refine ev1 ?_
      rw [hfb 4 (by rw [judgeP, if_pos h2]) (by decide)]
    have h3 : 0 ≤ p.path ∧ p.path < (x.t.ps.length : Int) := by unfold outP at h2; omega
    have hi : p.path.toNat < x.es.length := by have := HE.out; omega
    have hi2 : p.path < (x.es.length : Int) := by omega
    have hE := hx.q _ (lx_mem hi)
    have EE := hid (evs_eq hes hi)
    have hJ : judgeP x.t p = if outP p.fr 0 (((lx x.es p.path.toNat).l.length : Int) - 1) ∨ outP p.tt 0 (((lx x.es p.path.toNat).l.length : Int) - 1) then 4 else if p.tt ≤ p.fr ∨ ¬ (lx (lx x.es p.path.toNat).l p.fr.toNat).item = (lx (lx x.es p.path.toNat).l p.tt.toNat).item then 2 else 0 := by
      rw [judgeP, if_neg h2, EE.out]; rfl
    have HJ := hid hJ
    clear hJ
    have hlen := ho.len _ (lx_mem hi)
    have hll := hlen.2.2
    refine go ?_
    refine GoL.cv (fun w' hw => out_v _ _ _ w') ?_
    refine go ?_
    refine GoL.jk 6 [(36, .bool (decide (outP p.fr 0 (((lx x.es p.path.toNat).l.length : Int) - 1) ∨ outP p.tt 0 (((lx x.es p.path.toNat).l.length : Int) - 1))))] [0, 1, 6, 7, 8, 9, 10, 11] ?_ ?_
    · refine GoL.sp (fun h1 => ?_) (fun h1 => ?_)
      · refine go ?_
        exact GoL.jd (by simp [AgreeL, At, h1]) sb
      · refine go ?_
        refine GoL.cv (fun w' hw => out_v _ _ _ w') ?_
        refine go ?_
        exact GoL.jd (by simp [AgreeL, At, h1]) sb
    refine go ?_
    refine go_if (fun h4 => ?_) (fun h4 => ?_)
    · refine go ?_
      refine ev1 ?_
      rw [hfb 4 (by rw [HJ.out, if_pos h4]) (by decide)]
    have h6 : 0 ≤ p.fr ∧ p.fr < ((lx x.es p.path.toNat).l.length : Int) ∧ 0 ≤ p.tt ∧ p.tt < ((lx x.es p.path.toNat).l.length : Int) := by unfold outP at h4; omega
    refine go ?_
    refine D.sp (fun h7 => ?_) (fun h7 => ?_)
    · refine go ?_
      refine ev1 ?_
      rw [hfb 2 (by rw [HJ.out, if_neg h4, if_pos (.inl h7)]) (by decide)]
    · refine go ?_
      refine go_if (fun h8 => ?_) (fun h8 => ?_)
      · refine go ?_
        refine ev1 ?_
        rw [hfb 2 (by rw [HJ.out, if_neg h4, if_pos (.inr h8)]) (by decide)]
      · refine go ?_
        have h9 : judgeP x.t p = 0 := by rw [HJ.out, if_neg h4, if_neg (by rintro (h | h); exact absurd h (by omega); exact h h8)]
        refine go_again (k + 1) ⟨by omega, fun j hj => ?_⟩ (by omega) (by simp [AgreeL, At]) sb
        rcases Nat.lt_or_ge j k with h10 | h10
        · exact hk.2 j h10
        · obtain rfl : j = k := by omega
          rw [hp]; exact h9
  · refine go ?_
    refine ev1 ?_
    rw [judgeL, firstBad_none (fun j hj => hk.2 j (by omega))]
end

section
set_option linter.all false
/-- the value of what is between two events, and the pairs that are left; none: it is not fine -/
def valA : Nat → Int → Int → Int → List LaP → Int → Int → Option (Int × List LaP)
  | 0, _, _, _, _, _, _ => none
  | _ + 1, _, _, tt, [], at_, n => some (n + tt - at_, [])
  | k + 1, path, fr, tt, p :: r, at_, n =>
    if p.path = path ∧ p.fr < tt then
      if p.fr < at_ ∨ tt < p.tt ∨ p = ⟨path, fr, tt⟩ then none
      else match valA k path p.fr p.tt r p.fr 0 with
        | none => none
        | some (v, l') => valA k path fr tt l' p.tt (n + (p.fr - at_ + upI v))
    else some (n + tt - at_, p :: r)
/-- pairs of events -/
def PrOk (l : List LaP) : Prop := ∀ p ∈ l, 0 ≤ p.fr ∧ p.fr < p.tt ∧ p.tt ≤ 100
theorem valA_ok : ∀ k path fr tt l at_ n v l', PrOk l → at_ ≤ tt → valA k path fr tt l at_ n = some (v, l') → l' <:+ l ∧ n + (tt - at_) ≤ v ∧ v + 15 * (l'.length : Int) ≤ n + (tt - at_) + 15 * (l.length : Int)
  | 0, _, _, _, _, _, _, _, _, _, _, h => by simp [valA] at h
  | k + 1, path, fr, tt, [], at_, n, v, l', _, ha, h => by
    simp only [valA, Option.some.injEq, Prod.mk.injEq] at h
    obtain ⟨rfl, rfl⟩ := h
    exact ⟨List.suffix_refl _, by omega, by omega⟩
  | k + 1, path, fr, tt, p :: r, at_, n, v, l', hp, ha, h => by
    simp only [valA] at h
    split at h
    · rename_i h1
      split at h
      · cases h
      · rename_i h2
        have hpp := hp p (by simp)
        cases hi : valA k path p.fr p.tt r p.fr 0 with
        | none => rw [hi] at h; cases h
        | some q =>
          obtain ⟨u, l2⟩ := q
          rw [hi] at h
          simp only at h
          have hr : PrOk r := fun x hx => hp x (by simp [hx])
          obtain ⟨a1, a2, a3⟩ := valA_ok k path p.fr p.tt r p.fr 0 u l2 hr (by omega) hi
          have hl2 : PrOk l2 := fun x hx => hr x (a1.subset hx)
          obtain ⟨b1, b2, b3⟩ := valA_ok k path fr tt l2 p.tt _ v l' hl2 (by omega) h
          have hu := upI_ge u
          refine ⟨(b1.trans a1).trans (List.suffix_cons _ _), by omega, ?_⟩
          simp only [List.length_cons]
          push_cast
          omega
    · simp only [Option.some.injEq, Prod.mk.injEq] at h
      obtain ⟨rfl, rfl⟩ := h
      exact ⟨List.suffix_refl _, by omega, by omega⟩
end


end Go.Proofs.Ytigehmghcafblaa
