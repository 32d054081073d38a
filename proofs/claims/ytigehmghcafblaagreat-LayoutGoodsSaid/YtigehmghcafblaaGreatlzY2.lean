/- The reference of layout: paths, Check. -/
import Derived.Test.YtigehmghcafblaaGreatlzB1
import Derived.WideKeyPair
set_option linter.all false
namespace Go.Proofs.YtigehmghcafblaaGreat

section
set_option linter.all false
section
variable (it : Nat → Int)
/-- at z goes the last pair of a and y from -/
def atZ (a y z : Nat) : Bool := decide (it z = it y) && decide (Dv it a z + Rv it z y = Dv it a y)
def fstZ (a y : Nat) : Nat := a + ((List.range (y - a)).find? fun j => atZ it a y (a + j)).getD 0
/-- the pairs of two events (b), and those within a pair, k calls deep -/
def prs : Nat → Bool → Nat → Nat → List (Nat × Nat)
  | 0, _, _, _ => []
  | k + 1, true, a, y => if a = y then [] else if Dv it a y = Dv it a (y - 1) + 1 then prs k true a (y - 1) else prs k true a (fstZ it a y) ++ (fstZ it a y, y) :: prs k false (fstZ it a y) y
  | k + 1, false, z, y => if (innV it z y).2 < 0 then prs k true z (y - 1) else prs k true z (innV it z y).2.toNat ++ ((innV it z y).2.toNat, y) :: prs k false (innV it z y).2.toNat y
end
section
variable {it : Nat → Int}
theorem fstZ_ok {a y : Nat} (h : a < y) (hn : ¬ Dv it a y = Dv it a (y - 1) + 1) : a ≤ fstZ it a y ∧ fstZ it a y < y ∧ atZ it a y (fstZ it a y) = true ∧ ∀ z, a ≤ z → z < fstZ it a y → atZ it a y z = false := by
  have hex : ∃ z, a ≤ z ∧ z < y ∧ atZ it a y z = true := by
    have he := Dv_eq (it := it) h
    rcases maxB_at (sm := fun z => decide (it z = it y)) (f := fun z => Dv it a z + Rv it z y) (n0 := Dv it a (y - 1) + 1) (a := a) (y - a) with h1 | ⟨z, h2, h3, h4, h5⟩
    · exact absurd (he.trans h1) hn
    · refine ⟨z, h2, by omega, ?_⟩
      simp only [atZ, Bool.and_eq_true, decide_eq_true_eq]
      exact ⟨by simpa using h4, by rw [he, h5]⟩
  obtain ⟨z, h1, h2, h3⟩ := hex
  unfold fstZ
  cases hf : (List.range (y - a)).find? fun j => atZ it a y (a + j) with
  | none =>
    rw [List.find?_eq_none] at hf
    have := hf (z - a) (by simp; omega)
    rw [show a + (z - a) = z by omega] at this
    exact absurd h3 this
  | some j =>
    rw [List.find?_range_eq_some] at hf
    obtain ⟨g1, g2, g3⟩ := hf
    simp only [Option.getD_some]
    refine ⟨by omega, by simp at g2; omega, g1, fun z hz1 hz2 => ?_⟩
    have := g3 (z - a) (by omega)
    rw [show a + (z - a) = z by omega] at this
    simpa using this
theorem innV_from {z y : Nat} (h : ¬ (innV it z y).2 < 0) : z < (innV it z y).2.toNat ∧ (innV it z y).2.toNat < y ∧ it (innV it z y).2.toNat = it y ∧ (innV it z y).2 = ((innV it z y).2.toNat : Int) := by
  rcases innB_from (sm := fun w => decide (it w = it y)) (f := fun w => Dv it z w + Rv it w y) (n0 := Dv it z (y - 1) + 1) (z := z) (y - 1 - z) with h1 | ⟨w, h1, h2, h3, h4⟩
  · exact absurd (show (innV it z y).2 < 0 by unfold innV; omega) h
  · have e : (innV it z y).2 = (w : Int) := h1
    rw [e]
    exact ⟨by simpa using h2, by simp; omega, by simpa using h4, by simp⟩
/-- how deep the calls go -/
def prD (b : Bool) (a y : Nat) : Nat := 2 * (y - a) + (if b then 1 else 0)
/-- pairs are of like events, and within what is asked for -/
theorem prs_ok : ∀ k b a y, a ≤ y → (b = false → a < y ∧ it a = it y) → ∀ p ∈ prs it k b a y, a ≤ p.1 ∧ p.1 < p.2 ∧ p.2 ≤ y ∧ it p.1 = it p.2
  | 0, _, _, _, _, _, p, hp => by simp [prs] at hp
  | k + 1, true, a, y, h, _, p, hp => by
    simp only [prs] at hp
    split at hp
    · simp at hp
    split at hp
    · rename_i h1 _
      have := prs_ok k true a (y - 1) (by omega) (fun h => by cases h) p hp
      exact ⟨this.1, this.2.1, by omega, this.2.2.2⟩
    · rename_i h1 h2
      obtain ⟨g1, g2, g3, g4⟩ := fstZ_ok (it := it) (a := a) (y := y) (by omega) h2
      have g5 : it (fstZ it a y) = it y := by simp only [atZ, Bool.and_eq_true, decide_eq_true_eq] at g3; exact g3.1
      rcases List.mem_append.1 hp with hp | hp
      · have := prs_ok k true a _ g1 (fun h => by cases h) p hp
        exact ⟨this.1, this.2.1, by omega, this.2.2.2⟩
      · rcases List.mem_cons.1 hp with rfl | hp
        · exact ⟨g1, g2, Nat.le_refl _, g5⟩
        · have := prs_ok k false _ y (by omega) (fun _ => ⟨g2, g5⟩) p hp
          exact ⟨by omega, this.2.1, by omega, this.2.2.2⟩
  | k + 1, false, z, y, h, hb, p, hp => by
    have hb := hb rfl
    simp only [prs] at hp
    split at hp
    · have := prs_ok k true z (y - 1) (by omega) (fun h => by cases h) p hp
      exact ⟨this.1, this.2.1, by omega, this.2.2.2⟩
    · rename_i h2
      obtain ⟨g1, g2, g3, g4⟩ := innV_from h2
      rcases List.mem_append.1 hp with hp | hp
      · have := prs_ok k true z _ (by omega) (fun h => by cases h) p hp
        exact ⟨this.1, this.2.1, by omega, this.2.2.2⟩
      · rcases List.mem_cons.1 hp with rfl | hp
        · exact ⟨by omega, g2, Nat.le_refl _, g3⟩
        · have := prs_ok k false _ y (by omega) (fun _ => ⟨g2, g3⟩) p hp
          exact ⟨by omega, this.2.1, by omega, this.2.2.2⟩
/-- how many -/
theorem prs_len : ∀ k b a y, a ≤ y → (b = false → a < y) → (prs it k b a y).length ≤ 2 * (y - a) - (if b then 1 else 2)
  | 0, _, _, _, _, _ => by simp [prs]
  | k + 1, true, a, y, h, _ => by
    simp only [prs]
    split
    · simp
    split
    · rename_i h1 _
      have := prs_len k true a (y - 1) (by omega) (fun h => by cases h)
      simp only [if_true] at this ⊢; omega
    · rename_i h1 h2
      obtain ⟨g1, g2, _, _⟩ := fstZ_ok (it := it) (a := a) (y := y) (by omega) h2
      have i1 := prs_len k true a (fstZ it a y) g1 (fun h => by cases h)
      have i2 := prs_len k false (fstZ it a y) y (by omega) (fun _ => g2)
      simp only [if_true, Bool.false_eq_true, if_false, List.length_append, List.length_cons] at i1 i2 ⊢; omega
  | k + 1, false, z, y, h, hb => by
    have hb := hb rfl
    simp only [prs]
    split
    · have := prs_len k true z (y - 1) (by omega) (fun h => by cases h)
      simp only [if_true, Bool.false_eq_true, if_false] at this ⊢; omega
    · rename_i h2
      obtain ⟨g1, g2, _, _⟩ := innV_from h2
      have i1 := prs_len k true z (innV it z y).2.toNat (by omega) (fun h => by cases h)
      have i2 := prs_len k false (innV it z y).2.toNat y (by omega) (fun _ => g2)
      simp only [if_true, Bool.false_eq_true, if_false, List.length_append, List.length_cons] at i1 i2 ⊢; omega
/-- all calls that are deep enough give the same -/
theorem prs_fuel : ∀ k k' b a y, a ≤ y → (b = false → a < y) → prD b a y ≤ k → prD b a y ≤ k' → prs it k b a y = prs it k' b a y
  | 0, k', b, a, y, h, hb, h1, h2 => by
    cases b with
    | true => simp [prD] at h1
    | false => have := hb rfl; simp [prD] at h1; omega
  | k + 1, 0, b, a, y, h, hb, h1, h2 => by
    cases b with
    | true => simp [prD] at h2
    | false => have := hb rfl; simp [prD] at h2; omega
  | k + 1, k' + 1, true, a, y, h, _, h1, h2 => by
    simp only [prD, if_true] at h1 h2
    simp only [prs]
    split
    · rfl
    rename_i h3
    split
    · exact prs_fuel k k' true a (y - 1) (by omega) (fun h => by cases h) (by simp only [prD, if_true]; omega) (by simp only [prD, if_true]; omega)
    · rename_i h4
      obtain ⟨g1, g2, _, _⟩ := fstZ_ok (it := it) (a := a) (y := y) (by omega) h4
      rw [prs_fuel k k' true a (fstZ it a y) g1 (fun h => by cases h) (by simp only [prD, if_true]; omega) (by simp only [prD, if_true]; omega),
        prs_fuel k k' false (fstZ it a y) y (by omega) (fun _ => g2) (by simp only [prD, Bool.false_eq_true, if_false]; omega) (by simp only [prD, Bool.false_eq_true, if_false]; omega)]
  | k + 1, k' + 1, false, z, y, h, hb, h1, h2 => by
    have hb := hb rfl
    simp only [prD, Bool.false_eq_true, if_false] at h1 h2
    simp only [prs]
    split
    · exact prs_fuel k k' true z (y - 1) (by omega) (fun h => by cases h) (by simp only [prD, if_true]; omega) (by simp only [prD, if_true]; omega)
    · rename_i h4
      obtain ⟨g1, g2, _, _⟩ := innV_from h4
      rw [prs_fuel k k' true z _ (by omega) (fun h => by cases h) (by simp only [prD, if_true]; omega) (by simp only [prD, if_true]; omega),
        prs_fuel k k' false _ y (by omega) (fun _ => g2) (by simp only [prD, Bool.false_eq_true, if_false]; omega) (by simp only [prD, Bool.false_eq_true, if_false]; omega)]
end
end

section
set_option linter.all false
set_option pp.maxSteps 100000
set_option maxRecDepth 100000
set_option maxHeartbeats 4000000
open Go.RowKit

/- maps -/
theorem arrK : WideMaps.ArrKey Tryz.prog 90 3 2 := ⟨Tryz.underlying90, by kernel_rfl, by kernel_rfl, by kernel_rfl⟩
theorem KA : Maps.Keyed Tryz.prog 90 := Maps.Keyed.of_law arrK.law
theorem KT : ∃ m, Tryz.prog.types.size = m + 1 := ⟨Tryz.prog.types.size - 1, by kernel_rfl⟩
abbrev kv2 (p : Int × Int) : Value := .agg #[.int .i64 p.1, .int .i64 p.2]
theorem kv2_inj (x y : Int × Int) (h : kv2 x = kv2 y) : x = y := by
  simp only [kv2, Value.agg.injEq] at h
  have h := congrArg Array.toList h
  simp at h
  exact Prod.ext h.1 h.2
theorem wfI {a : Int} (h : -9223372036854775808 ≤ a ∧ a ≤ 9223372036854775807) : (Lit.int .i64 a).wf = true := by
  simp [Lit.wf, IntKind.min, IntKind.max, IntKind.bits, IntKind.signed]; omega
theorem key2 {a b : Int} (ha : -9223372036854775808 ≤ a ∧ a ≤ 9223372036854775807) (hb : -9223372036854775808 ≤ b ∧ b ≤ 9223372036854775807) : ∃ kl, keyOf Tryz.prog 90 (kv2 (a, b)) = some kl :=
  ⟨_, WideMaps.keyOf_pair arrK Tryz.underlying3 KT (wfI ha) (wfI hb)⟩
/-- block b is a map of at most k entries; at the key of two numbers lies φ of them, or nothing for 0 -/
def MapI (w : World) (b k : Nat) (φ : Nat → Nat → Int) : Prop := ∃ g, MapV Tryz.prog 90 kv2 w b k g ∧ ∀ a y : Nat, (g ((a : Int), (y : Int))).getD (.int .i64 0) = .int .i64 (φ a y)
def En.map2 (b k : Nat) (φ : Nat → Nat → Int) : En where
  P S w := S b ∧ MapI w b k φ
  mono h hs := ⟨hs _ h.1, h.2⟩
  loc h hs _ := ⟨h.1, let ⟨g, h1, h2⟩ := h.2; ⟨g, h1.same (hs _ h.1), h2⟩⟩
section
variable {w0 w w' : World} {Bs : List Nat} {n : Nat} {L : List (Nat × Value)} {H H' : List En} {ops : Array Oper} {K : (Nat → Value) → World → Prop} {os : List Oper} {u v : Value} {d b k : Nat} {T ty : TypeId} {pos : String} {af : Array Edge} {gd : Option (Nat × Bool)} {x y z : Operand} {φ φ' : Nat → Nat → Int}
theorem MapI.at (h : MapI w b k φ) (hb : Below w.heap.size w w') : MapI w' b k φ := let ⟨g, h1, h2⟩ := h; ⟨g, h1.at hb, h2⟩
theorem MapI.old (h : MapI w0 b k φ) (hm : Mem w0 Bs H w) (hn : b ∉ Bs := by simp) : MapI w b k φ := let ⟨g, h1, h2⟩ := h; ⟨g, h1.oldB hm.1 hn, h2⟩
theorem Mem.mapI (h : Mem w0 Bs H w) (p : Pick (.map2 b k φ) H H') : MapI w b k φ := by
  obtain ⟨S, hx, _⟩ := (h.pick p).head; exact hx.2
/-- what lies at a key -/
theorem Ex.mg {i j : Nat} (hi : i ≤ 1000) (hj : j ≤ 1000) (hm : ∀ w, Mem w0 Bs H w → ∃ k, MapI w b k φ) (hx : ∀ g, evF n (tab L g) x = .map (some b) := by intro g; simp only [evF_tmp, tab_cons, Nat.reduceLT, Nat.reduceEqDiff, ↓reduceIte]; (try rfl))
    (hy : ∀ g, evF n (tab L g) y = kv2 ((i : Int), (j : Int)) := by intro g; simp only [evF_tmp, tab_cons, Nat.reduceLT, Nat.reduceEqDiff, ↓reduceIte]; (try rfl)) : Ex w0 Bs Tryz.prog n ⟨some d, .lookup 87 x y false, ty, pos, af, gd⟩ L H (.int .i64 (φ i j)) := fun g w hw => by
  obtain ⟨k, f, h1, h2⟩ := hm w hw
  obtain ⟨kl, hk⟩ := key2 (a := (i : Int)) (b := (j : Int)) (by omega) (by omega)
  have h3 := h1.has KA (T := 87) (E := 3) Tryz.underlying87 (z := .int .i64 0) (by go_simp) (x := ((i : Int), (j : Int))) hk false
  simp only [execOp, hx g, hy g, Sem.run_bind, h3, Result.andThen_ok, Sem.run_pure, Bool.false_eq_true, if_false, h2]
/-- a new map -/
theorem GoL.mm (hr : ∀ b, GoL w0 Bs Tryz.prog ops n K os ((d, .map (some b)) :: L) (.map2 b 0 (fun _ _ => 0) :: H)) (hd : d < n := by decide) : GoL w0 Bs Tryz.prog ops n K (⟨some d, .makeMap 87 none, ty, pos, af, none⟩ :: os) L H :=
  .mk fun g w hw => listF_step rfl fun K' hK => opF_makeMap (κ := Int × Int) (kt := 90) (kv := kv2) rfl hd rfl fun w' h1 h2 => hK _ _ ((hr _).go g w' (hw.new (E := [.map2 w.heap.size 0 fun _ _ => 0]) ⟨h2, fun b => b = w.heap.size, fun b hb => by subst hb; exact ⟨Nat.le_refl _, h1.lt⟩, ⟨rfl, _, h1, fun _ _ => rfl⟩, trivial⟩))
/-- a new value at a key -/
theorem GoL.mu {i j : Nat} {q : Int} (φ' : Nat → Nat → Int) (p : Rep (.map2 b k φ) (.map2 b (k + 1) φ') H H') (hi : i ≤ 1000) (hj : j ≤ 1000) (hk : k ≤ 1000000) (hφ : ∀ a c, φ' a c = if a = i ∧ c = j then q else φ a c) (hr : GoL w0 Bs Tryz.prog ops n K os L H')
    (hx : ∀ g, evF n (tab L g) x = .map (some b) := by intro g; simp only [evF_tmp, tab_cons, Nat.reduceLT, Nat.reduceEqDiff, ↓reduceIte]; (try rfl))
    (hy : ∀ g, evF n (tab L g) y = kv2 ((i : Int), (j : Int)) := by intro g; simp only [evF_tmp, tab_cons, Nat.reduceLT, Nat.reduceEqDiff, ↓reduceIte]; (try rfl))
    (hz : ∀ g, evF n (tab L g) z = .int .i64 q := by intro g; simp only [evF_tmp, evF_const, tab_cons, Nat.reduceLT, Nat.reduceEqDiff, ↓reduceIte]; (try rfl)) : GoL w0 Bs Tryz.prog ops n K (⟨none, .mapUpdate 87 x y z, ty, pos, af, none⟩ :: os) L H :=
  .mk fun g w hw => listF_step rfl fun K' hK => by
    obtain ⟨K2, p1, p2⟩ := p.split
    have ⟨f, h1, h2⟩ : MapI w b k φ := by obtain ⟨S, hx, _⟩ := (hw.perm p1).head; exact hx.2
    obtain ⟨kl, hkl⟩ := key2 (a := (i : Int)) (b := (j : Int)) (by omega) (by omega)
    refine opF_put (T := 87) (E := 3) x y z rfl KA Tryz.underlying87 h1 (by omega) kv2_inj ((i : Int), (j : Int)) (hx g) (hy g) hkl fun w' h3 h4 => hK _ _ (hr.go g w' (hw.rep p fun S hS hlt => ⟨h4.os, h4.tape, h4.output, h4.size, fun c hc hn => h4.block c hc (fun e => hn (by rw [List.mem_singleton.1 e]; exact hS.1)), ⟨⟨.inl hS.1, Nat.lt_of_lt_of_le (hlt _ hS.1) h4.size⟩, _, h3, fun a c => ?_⟩⟩))
    rw [hφ, hz g]
    by_cases e : a = i ∧ c = j
    · rw [if_pos e, if_pos (by rw [e.1, e.2])]; rfl
    · rw [if_neg e, if_neg (fun h => e (by simp only [Prod.mk.injEq] at h; omega)), h2]
end

/- a proof under way -/
structure PR where
  l : List Evt
  ae : Option Addr
  ce : Nat
  bd : Nat
  br : Nat
  idx : Int
abbrev PR.cs (x : PR) (v : Value) : List Value := [.slice x.ae x.l.length x.ce, .map (some x.bd), .map (some x.br), .int .i64 x.idx, v]
abbrev PR.it (x : PR) (i : Nat) : Int := (lx x.l i).item
theorem and_up (N : Nat) (h : N < 2 ^ 64) : N &&& (2 ^ 64 - 16) = N / 16 * 16 := by
  apply Nat.eq_of_testBit_eq
  intro i
  have e1 : (2 ^ 64 - 16 : Nat) = (2 ^ 60 - 1) <<< 4 := by decide
  have e2 : N / 16 * 16 = (N >>> 4) <<< 4 := by rw [Nat.shiftRight_eq_div_pow, Nat.shiftLeft_eq]
  rw [e1, e2, Nat.testBit_and, Nat.testBit_shiftLeft, Nat.testBit_shiftLeft, Nat.testBit_shiftRight, Nat.testBit_two_pow_sub_one]
  by_cases h4 : 4 ≤ i
  · rw [show 4 + (i - 4) = i by omega]
    by_cases h6 : i - 4 < 60
    · simp [h4, h6]
    · have : N.testBit i = false := Nat.testBit_lt_two_pow (Nat.lt_of_lt_of_le h (Nat.pow_le_pow_right (by omega) (by omega)))
      simp [this]
  · simp [h4]
theorem i64_andNot15 (n : Int) (h0 : 0 ≤ n) (h1 : n ≤ 1000000000) : bits .andNot .i64 n 15 = n - n % 16 := by
  show IntKind.i64.wrap ((BitVec.ofInt 64 n &&& ~~~BitVec.ofInt 64 15).toNat : Int) = _
  have h2 : (BitVec.ofInt 64 15).toNat = 15 := by decide
  have h3 : (BitVec.ofInt 64 n).toNat = n.toNat := by rw [BitVec.toNat_ofInt]; omega
  rw [BitVec.toNat_and, BitVec.toNat_not, h2, h3, show 2 ^ 64 - 1 - 15 = 2 ^ 64 - 16 by decide, and_up _ (by omega), IntKind.wrap_i64]
  omega
theorem up_v (n : Int) (w : World) (hb : 0 ≤ n ∧ n ≤ 1000000) : Calls Tryz.prog 58 #[.int .i64 n] w (fun e w' => e = .returned (.int .i64 (upI n)) ∧ Below w.heap.size w w') := by
  refine go_in Tryz.func58 rfl Tryz.ntmps58 [] [] (Mem.start _) ?_
  refine go ?_
  refine ev1 ?_
  rw [i64_andNot15 _ (by omega) (by omega)]
  simp only [upI]; congr 1; omega
/-- what the functions of a proof read -/
structure PR.At (x : PR) (b : Nat) (pv : Value) (φd φr : Nat → Nat → Int) (w : World) : Prop where
  c : Cells w b (x.cs pv)
  e : Rd Evt.cs 2 w x.ae x.l
  d : ∃ k, MapI w x.bd k φd
  r : ∃ k, MapI w x.br k φr
structure BdD (φ : Nat → Nat → Int) : Prop where
  out : ∀ a y, 0 ≤ φ a y ∧ φ a y ≤ 2000
theorem same_v (x : PR) (b : Nat) (pv : Value) (z y : Nat) (w : World) (hc : Cells w b (x.cs pv)) (he : Rd Evt.cs 2 w x.ae x.l) (hz : z < x.l.length) (hy : y < x.l.length) (hl : x.l.length ≤ 100) :
    Calls Tryz.prog 92 #[.pointer (some ⟨b, 0, none⟩), .int .i64 z, .int .i64 y] w (fun e w' => e = .returned (.bool (decide (x.it z = x.it y))) ∧ Below w.heap.size w w') := by
  refine go_in Tryz.func92 rfl Tryz.ntmps92 [] [] (Mem.start _) ?_
  refine go ?_
  refine ev1 ?_
  congr 1
theorem chain_v (x : PR) (b : Nat) (pv : Value) (φd φr : Nat → Nat → Int) (a z y : Nat) (w : World) (hx : x.At b pv φd φr w) (hd : BdD φd) (hr : BdD φr) (ha : a ≤ 100) (hz : z ≤ 100) (hy : y ≤ 100) :
    Calls Tryz.prog 94 #[.pointer (some ⟨b, 0, none⟩), .int .i64 a, .int .i64 z, .int .i64 y] w (fun e w' => e = .returned (.int .i64 (φd a z + φr z y)) ∧ Below w.heap.size w w') := by
  have hc := hx.c
  have h1 := hd.out a z
  have h2 := hr.out z y
  obtain ⟨kd, hd⟩ := hx.d
  obtain ⟨kr, hr⟩ := hx.r
  refine go_in Tryz.func94 rfl Tryz.ntmps94 [] [] (Mem.start _) ?_
  refine go ?_
  refine D.q ⟨_, fun X F => Ex.mg (i := a) (j := z) (by omega) (by omega) (fun w hw => ⟨_, hd.old hw⟩), ?_⟩
  refine go ?_
  refine D.q ⟨_, fun X F => Ex.mg (i := z) (j := y) (by omega) (by omega) (fun w hw => ⟨_, hr.old hw⟩), ?_⟩
  refine go ?_
  exact ev1 rfl
theorem PR.At.old {x : PR} {b : Nat} {pv : Value} {φd φr : Nat → Nat → Int} {w w' : World} {H : List En} (h : x.At b pv φd φr w) (hm : Mem w [] H w') : x.At b pv φd φr w' :=
  ⟨hm.oldC h.c, hm.old h.e, let ⟨k, h⟩ := h.d; ⟨k, h.old hm⟩, let ⟨k, h⟩ := h.r; ⟨k, h.old hm⟩⟩
theorem inner_v (x : PR) (b : Nat) (pv : Value) (φd φr : Nat → Nat → Int) (z y : Nat) (w : World) (hx : x.At b pv φd φr w) (hd : BdD φd) (hr : BdD φr) (hzy : z < y) (hy : y < x.l.length) (hl : x.l.length ≤ 100) :
    Calls Tryz.prog 93 #[.pointer (some ⟨b, 0, none⟩), .int .i64 z, .int .i64 y] w (fun e w' => e = .returned (.tuple #[.int .i64 (innB (fun v => decide (x.it v = x.it y)) (fun v => φd z v + φr v y) (φd z (y - 1) + 1) z (y - 1 - z)).1, .int .i64 (innB (fun v => decide (x.it v = x.it y)) (fun v => φd z v + φr v y) (φd z (y - 1) + 1) z (y - 1 - z)).2]) ∧ Below w.heap.size w w') := by
  have hc := hx.c
  have h1 := hd.out z (y - 1)
  obtain ⟨kd, hmd⟩ := hx.d
  refine go_in Tryz.func93 rfl Tryz.ntmps93 [] [] (Mem.start _) ?_
  refine go ?_
  refine GoL.q ⟨_, Ex.mg (i := z) (j := y - 1) (by omega) (by omega) (fun w hw => ⟨_, hmd.old hw⟩) (hy := by intro g; simp only [evF_tmp, tab_cons, Nat.reduceLT, Nat.reduceEqDiff, ↓reduceIte]; rw [show ((y : Int) - 1) = ((y - 1 : Nat) : Int) by omega]), ?_⟩
  refine go ?_
  refine go_loop (X := Nat) (fun k => z + 1 + k ≤ y) (fun k => y - k) (fun k => [(8, .int .i64 ((z + 1 + k : Nat) : Int)), (6, .int .i64 (innB (fun v => decide (x.it v = x.it y)) (fun v => φd z v + φr v y) (φd z (y - 1) + 1) z k).1), (7, .int .i64 (innB (fun v => decide (x.it v = x.it y)) (fun v => φd z v + φr v y) (φd z (y - 1) + 1) z k).2)]) (fun _ => []) 0 [0, 1, 2] (by omega) (by simp [AgreeL, At, innB]) sb (fun k hk => ?_)
  refine go ?_
  refine go_if (fun h => ?_) (fun h => ?_)
  · have hk2 : z + 1 + k < y := by omega
    refine go ?_
    refine GoL.cv (fun w' hw => same_v x b pv (z + 1 + k) y w' (hw.oldC hc) (hw.old hx.e) (by omega) hy hl) ?_
    refine go ?_
    have hdz := hd.out z (z + 1 + k)
    have hrz := hr.out (z + 1 + k) y
    refine GoL.jk 8 [(38, .bool (decide (x.it (z + 1 + k) = x.it y ∧ (innB (fun v => decide (x.it v = x.it y)) (fun v => φd z v + φr v y) (φd z (y - 1) + 1) z k).1 < φd z (z + 1 + k) + φr (z + 1 + k) y)))] [0, 1, 2, 6, 7, 8] ?_ ?_
    · refine GoL.sp (fun h1 => ?_) (fun h1 => ?_)
      · refine go ?_
        refine GoL.cv (fun w' hw => chain_v x b pv φd φr z (z + 1 + k) y w' (hx.old hw) hd hr (by omega) (by omega) (by omega)) ?_
        refine go ?_
        exact GoL.jd (by simp [AgreeL, At, h1]) sb
      · refine go ?_
        exact GoL.jd (by simp [AgreeL, At, h1]) sb
    refine go ?_
    refine go_if (fun h => ?_) (fun h => ?_)
    · refine go ?_
      refine GoL.cv (fun w' hw => chain_v x b pv φd φr z (z + 1 + k) y w' (hx.old hw) hd hr (by omega) (by omega) (by omega)) ?_
      refine go ?_
      refine go_again (k + 1) ?_ ?_ ?_ sb
      · omega
      · omega
      · simp [AgreeL, At, innB, h]
        try omega
    · refine go ?_
      refine go_again (k + 1) ?_ ?_ ?_ sb
      · omega
      · omega
      · simp [AgreeL, At, innB, h]
        try omega
  · have hk2 : k = y - 1 - z := by omega
    subst hk2
    refine go ?_
    exact ev2 ⟨rfl, rfl⟩
end

section
set_option linter.all false
set_option pp.maxSteps 100000
set_option maxRecDepth 100000
set_option maxHeartbeats 4000000
open Go.RowKit

def dF (it : Nat → Int) (m a y : Nat) : Int := if y < m then Dv it a y else 0
def rF (it : Nat → Int) (m a y : Nat) : Int := if y < m then Rv it a y else 0
/-- .. with the last j of column y -/
def rJ (it : Nat → Int) (y j a y' : Nat) : Int := if y' < y then Rv it a y' else if y' = y ∧ y - j ≤ a then Rv it a y else 0
/-- .. with the first a of column y -/
def dA (it : Nat → Int) (y k a y' : Nat) : Int := if y' < y then Dv it a y' else if y' = y ∧ a < k then Dv it a y else 0
section
variable {it : Nat → Int} {m y j k : Nat}
theorem Dv_bd (h : y < 100) (a : Nat) : 0 ≤ Dv it a y ∧ Dv it a y ≤ 2000 := by
  by_cases h1 : a < y
  · have := (DR_bd (it := it) y).2 a h1; omega
  · rw [Dv_out (by omega)]; omega
theorem Rv_bd (h : y < 100) (a : Nat) : 0 ≤ Rv it a y ∧ Rv it a y ≤ 2000 := by
  by_cases h1 : a < y
  · have := (DR_bd (it := it) y).1 a h1; omega
  · rw [Rv_out (by omega)]; omega
theorem bd_dF (h : m ≤ 100) : BdD (dF it m) := ⟨fun a y => by unfold dF; split; exact Dv_bd (by omega) a; omega⟩
theorem bd_rF (h : m ≤ 100) : BdD (rF it m) := ⟨fun a y => by unfold rF; split; exact Rv_bd (by omega) a; omega⟩
theorem bd_rJ (h : y < 100) : BdD (rJ it y j) := ⟨fun a y' => by unfold rJ; split; exact Rv_bd (by omega) a; split; exact Rv_bd h a; omega⟩
theorem bd_dA (h : y < 100) : BdD (dA it y k) := ⟨fun a y' => by unfold dA; split; exact Dv_bd (by omega) a; split; exact Dv_bd h a; omega⟩
theorem rJ_0 : rJ it y 0 = rF it y := by funext a y'; unfold rJ rF; split; rfl; split; exact Rv_out (by omega); rfl
theorem dA_0 : dA it y 0 = dF it y := by funext a y'; unfold dA dF; split; rfl; rw [if_neg (by omega)]
theorem rJ_y : rJ it y y = rF it (y + 1) := by
  funext a y'; unfold rJ rF
  by_cases h : y' < y
  · rw [if_pos h, if_pos (by omega)]
  · rw [if_neg h]
    by_cases e : y' = y
    · subst e; rw [if_pos ⟨rfl, by omega⟩, if_pos (by omega)]
    · rw [if_neg (fun h => e h.1), if_neg (by omega)]
theorem dA_y : dA it y y = dF it (y + 1) := by
  funext a y'; unfold dA dF
  by_cases h : y' < y
  · rw [if_pos h, if_pos (by omega)]
  · rw [if_neg h]
    by_cases e : y' = y
    · subst e; rw [if_pos (show y' < y' + 1 by omega)]
      by_cases h2 : a < y'
      · rw [if_pos ⟨rfl, h2⟩]
      · rw [if_neg (fun h => h2 h.2), Dv_out (by omega)]
    · rw [if_neg (fun h => e h.1), if_neg (by omega)]
theorem rJ_put (hj : j < y) (a c : Nat) : rJ it y (j + 1) a c = if a = y - 1 - j ∧ c = y then Rv it (y - 1 - j) y else rJ it y j a c := by
  unfold rJ
  by_cases h : a = y - 1 - j ∧ c = y
  · rw [if_pos h, if_neg (by omega), if_pos ⟨h.2, by omega⟩, h.1]
  · rw [if_neg h]
    by_cases h1 : c < y
    · rw [if_pos h1, if_pos h1]
    · rw [if_neg h1, if_neg h1]
      by_cases h2 : c = y ∧ y - j ≤ a
      · rw [if_pos h2, if_pos ⟨h2.1, by omega⟩]
      · rw [if_neg h2, if_neg (by omega)]
theorem dA_put (hk : k < y) (a c : Nat) : dA it y (k + 1) a c = if a = k ∧ c = y then Dv it k y else dA it y k a c := by
  unfold dA
  by_cases h : a = k ∧ c = y
  · rw [if_pos h, if_neg (by omega), if_pos ⟨h.2, by omega⟩, h.1]
  · rw [if_neg h]
    by_cases h1 : c < y
    · rw [if_pos h1, if_pos h1]
    · rw [if_neg h1, if_neg h1]
      by_cases h2 : c = y ∧ a < k
      · rw [if_pos h2, if_pos ⟨h2.1, by omega⟩]
      · rw [if_neg h2, if_neg (by omega)]
theorem rJ_skip (hj : j < y) (h : ¬ it (y - 1 - j) = it y) : rJ it y (j + 1) = rJ it y j := by
  funext a c
  rw [rJ_put hj]
  by_cases h1 : a = y - 1 - j ∧ c = y
  · rw [if_pos h1, Rv_eq (by omega), if_neg h]
    unfold rJ
    rw [if_neg (by omega), if_neg (by omega)]
  · rw [if_neg h1]
theorem inn_eq (hj : j < y) : innB (fun v => decide (it v = it y)) (fun v => dF it y (y - 1 - j) v + rJ it y j v y) (dF it y (y - 1 - j) (y - 1) + 1) (y - 1 - j) (y - 1 - (y - 1 - j)) = innV it (y - 1 - j) y := by
  unfold innV
  rw [show dF it y (y - 1 - j) (y - 1) = Dv it (y - 1 - j) (y - 1) by unfold dF; rw [if_pos (by omega)]]
  refine innB_congr _ fun w h1 h2 => ⟨rfl, fun _ => ?_⟩
  have e1 : dF it y (y - 1 - j) w = Dv it (y - 1 - j) w := by unfold dF; rw [if_pos (by omega)]
  have e2 : rJ it y j w y = Rv it w y := by unfold rJ; rw [if_neg (by omega), if_pos ⟨rfl, by omega⟩]
  rw [e1, e2]
end
theorem MapI.mono {w : World} {b k m : Nat} {φ : Nat → Nat → Int} (h : MapI w b k φ) (hm : k ≤ m) : MapI w b m φ := let ⟨g, h1, h2⟩ := h; ⟨g, h1.mono hm, h2⟩
theorem Mem.mapUp {w0 w : World} {Bs : List Nat} {H H' : List En} {b k m : Nat} {φ : Nat → Nat → Int} (h : Mem w0 Bs H w) (p : Rep (.map2 b k φ) (.map2 b m φ) H H') (hm : k ≤ m := by omega) : Mem w0 Bs H' w := h.to p fun S hS => ⟨hS.1, hS.2.mono hm⟩
abbrev prvE (l : List Evt) (ae : Option Addr) (ce : Nat) (idx : Int) (m : Nat) (p : Nat × Nat × Nat) : List En :=
  [.cells p.1 (PR.cs ⟨l, ae, ce, p.2.1, p.2.2, idx⟩ (.slice none 0 0)), .map2 p.2.1 (100 * m) (dF (fun i => (lx l i).item) m), .map2 p.2.2 (100 * m) (rF (fun i => (lx l i).item) m)]
theorem prove_v (x : PD) (b i : Nat) (w : World) (hx : x.At b w) (ho : x.Ok) (hi : i < x.es.length) :
    Calls Tryz.prog 48 #[.pointer (some ⟨b, 0, none⟩), .int .i64 i] w (Ret (fun p : Nat × Nat × Nat => .pointer (some ⟨p.1, 0, none⟩)) (prvE (lx x.es i).l (lx x.es i).a (lx x.es i).c i (lx x.es i).l.length) w) := by
  have hc := hx.c
  have he := hx.e
  have hE := hx.q _ (lx_mem hi)
  have hlen := ho.len _ (lx_mem hi)
  refine go_in Tryz.func48 rfl Tryz.ntmps48 [] [] (Mem.start _) ?_
  refine go ?_
  refine GoL.mm (fun bd => ?_)
  refine go ?_
  refine GoL.mm (fun br => ?_)
  refine go ?_
  refine GoL.a (fun b5 => ?_)
  refine go ?_
  obtain ⟨X, hX⟩ : ∃ X : PR, X = ⟨(lx x.es i).l, (lx x.es i).a, (lx x.es i).c, bd, br, (i : Int)⟩ := ⟨_, rfl⟩
  have HX := hid hX
  have el : (lx x.es i).l = X.l := by rw [hX]
  have ea : (lx x.es i).a = X.ae := by rw [hX]
  have ec : (lx x.es i).c = X.ce := by rw [hX]
  have ed : bd = X.bd := by rw [hX]
  have er : br = X.br := by rw [hX]
  have ei : (i : Int) = X.idx := by rw [hX]
  rw [el] at hlen
  rw [el, ea] at hE
  rw [el, ea, ec, ed, er, ei]
  clear el ea ec ed er ei hX
  have hle : X.l.length ≤ 100 := by omega
  refine go_loop (X := Nat) (fun y => y ≤ X.l.length) (fun y => X.l.length - y) (fun y => [(30, .int .i64 y)]) (fun y => [.cells b5 (X.cs (.slice none 0 0)), .map2 X.bd (100 * y) (dF X.it y), .map2 X.br (100 * y) (rF X.it y)]) 0 [5, 29] (Nat.zero_le _) ⟨fun g => rfl, trivial⟩ sb (fun y hy => ?_)
  refine go ?_
  refine go_if (fun h => ?_) (fun h => ?_)
  · have hy1 : y < X.l.length := by omega
    have hy2 : y < 100 := by omega
    refine go ?_
    refine GoC.mem (H' := [.cells b5 (X.cs (.slice none 0 0)), .map2 X.bd (100 * y) (dF X.it y), .map2 X.br (100 * y + 0) (rJ X.it y 0)]) (fun w hw => by rw [rJ_0]; exact hw) ?_
    refine go_loop (X := Nat) (fun j => j ≤ y) (fun j => y - j) (fun j => [(7, .int .i64 ((y : Int) - 1 - j))]) (fun j => [.cells b5 (X.cs (.slice none 0 0)), .map2 X.bd (100 * y) (dF X.it y), .map2 X.br (100 * y + j) (rJ X.it y j)]) 0 [5, 6, 29, 30] (Nat.zero_le _) (by simp [AgreeL, At]) sb (fun j hj => ?_)
    have hpr : ∀ {w' : World}, Mem w [] [.cells b5 (X.cs (.slice none 0 0)), .map2 X.bd (100 * y) (dF X.it y), .map2 X.br (100 * y + j) (rJ X.it y j)] w' → X.At b5 (.slice none 0 0) (dF X.it y) (rJ X.it y j) w' := fun hw => ⟨hw.cells .here, hw.old hE, ⟨_, hw.mapI (.there .here)⟩, ⟨_, hw.mapI (.there (.there .here))⟩⟩
    refine go ?_
    refine go_if (fun h2 => ?_) (fun h2 => ?_)
    · have hj1 : j < y := by omega
      have hz : ((y : Int) - 1 - j) = ((y - 1 - j : Nat) : Int) := by omega
      rw [hz]
      refine go ?_
      refine GoL.cv (fun w' hw => same_v X b5 _ (y - 1 - j) y w' (hw.cells .here) (hw.old hE) (by omega) hy1 hle) ?_
      refine go ?_
      refine go_if (fun h3 => ?_) (fun h3 => ?_)
      · refine go ?_
        refine GoL.cv (fun w' hw => inner_v X b5 _ _ _ (y - 1 - j) y w' (hpr hw) (bd_dF (by omega)) (bd_rJ hy2) (by omega) hy1 hle) ?_
        rw [inn_eq hj1]
        have h4 := Rv_eq (it := X.it) (z := y - 1 - j) (y := y) (by omega)
        rw [if_pos h3] at h4
        have h5 := Rv_bd (it := X.it) hy2 (y - 1 - j)
        have h6 := upI_ge (innV X.it (y - 1 - j) y).1
        have h7 : 0 ≤ (innV X.it (y - 1 - j) y).1 := by
          have := Dv_bd (it := X.it) (y := y - 1) (by omega) (y - 1 - j)
          have h8 : Dv X.it (y - 1 - j) (y - 1) + 1 ≤ (innV X.it (y - 1 - j) y).1 := innB_ge _
          omega
        refine go ?_
        refine D.cv (fun F w' hw => up_v (innV X.it (y - 1 - j) y).1 w' (by omega)) ?_
        refine go ?_
        refine GoL.mu (b := X.br) (φ := rJ X.it y j) (i := y - 1 - j) (j := y) (q := upI (innV X.it (y - 1 - j) y).1) (rJ X.it y (j + 1)) rp (by omega) (by omega) (by omega) (fun a c => by rw [rJ_put hj1, h4]) ?_
        refine go ?_
        refine go_again (j + 1) ?_ ?_ ?_ sb
        · omega
        · omega
        · simp [AgreeL, At]; omega
      · refine go ?_
        refine GoX.mem (H' := [.cells b5 (X.cs (.slice none 0 0)), .map2 X.bd (100 * y) (dF X.it y), .map2 X.br (100 * y + (j + 1)) (rJ X.it y (j + 1))]) (fun w hw => by rw [rJ_skip hj1 h3]; exact hw.mapUp rp) ?_
        refine go_again (j + 1) ?_ ?_ ?_ sb
        · omega
        · omega
        · simp [AgreeL, At]; omega
    · obtain rfl : j = y := by omega
      rw [rJ_y]
      clear hpr
      refine go ?_
      refine GoC.mem (H' := [.cells b5 (X.cs (.slice none 0 0)), .map2 X.bd (100 * j + 0) (dA X.it j 0), .map2 X.br (100 * j + j) (rF X.it (j + 1))]) (fun w hw => by rw [dA_0]; exact hw) ?_
      refine go_loop (X := Nat) (fun a => a ≤ j) (fun a => j - a) (fun a => [(60, .int .i64 a)]) (fun a => [.cells b5 (X.cs (.slice none 0 0)), .map2 X.bd (100 * j + a) (dA X.it j a), .map2 X.br (100 * j + j) (rF X.it (j + 1))]) 0 [5, 6, 29, 30, 59] (Nat.zero_le _) (by simp [AgreeL, At]) sb (fun a ha => ?_)
      have hpr : ∀ {w' : World}, Mem w [] [.cells b5 (X.cs (.slice none 0 0)), .map2 X.bd (100 * j + a) (dA X.it j a), .map2 X.br (100 * j + j) (rF X.it (j + 1))] w' → X.At b5 (.slice none 0 0) (dA X.it j a) (rF X.it (j + 1)) w' := fun hw => ⟨hw.cells .here, hw.old hE, ⟨_, hw.mapI (.there .here)⟩, ⟨_, hw.mapI (.there (.there .here))⟩⟩
      refine go ?_
      refine go_if (fun h3 => ?_) (fun h3 => ?_)
      · have ha1 : a < j := by omega
        have hb1 := Dv_bd (it := X.it) (y := j - 1) (by omega) a
        refine go ?_
        refine GoL.q ⟨_, Ex.mg (b := X.bd) (φ := dA X.it j a) (i := a) (j := j - 1) (by omega) (by omega) (fun w hw => ⟨_, hw.mapI pk⟩) (hy := by intro g; simp only [evF_tmp, tab_cons, Nat.reduceLT, Nat.reduceEqDiff, ↓reduceIte]; rw [show ((j : Int) - 1) = ((j - 1 : Nat) : Int) by omega]), ?_⟩
        rw [show dA X.it j a a (j - 1) = Dv X.it a (j - 1) by unfold dA; rw [if_pos (by omega)]]
        refine go ?_
        refine go_loop (X := Nat) (fun k => a + k ≤ j) (fun k => j - k) (fun k => [(12, .int .i64 ((a : Int) + k)), (11, .int .i64 (maxB (fun z => decide (X.it z = X.it j)) (fun z => Dv X.it a z + Rv X.it z j) (Dv X.it a (j - 1) + 1) a k))]) (fun _ => [.cells b5 (X.cs (.slice none 0 0)), .map2 X.bd (100 * j + a) (dA X.it j a), .map2 X.br (100 * j + j) (rF X.it (j + 1))]) 0 [5, 6, 10, 29, 30, 59, 60] (by omega) (by simp [AgreeL, At, maxB]) sb (fun k hk => ?_)
        refine go ?_
        refine go_if (fun h4 => ?_) (fun h4 => ?_)
        · have hk1 : a + k < j := by omega
          refine go ?_
          refine GoL.cv (fun w' hw => same_v X b5 _ (a + k) j w' (hw.cells .here) (hw.old hE) (by omega) hy1 hle) ?_
          refine go ?_
          refine go_if (fun h5 => ?_) (fun h5 => ?_)
          · refine go ?_
            refine GoL.cv (fun w' hw => chain_v X b5 _ _ _ a (a + k) j w' (hpr hw) (bd_dA hy2) (bd_rF (by omega)) (by omega) (by omega) (by omega)) ?_
            rw [show dA X.it j a a (a + k) = Dv X.it a (a + k) by unfold dA; rw [if_pos hk1], show rF X.it (j + 1) (a + k) j = Rv X.it (a + k) j by unfold rF; rw [if_pos (by omega)]]
            refine go ?_
            refine go_again (k + 1) ?_ ?_ ?_ sb
            · omega
            · omega
            · simp [AgreeL, At, maxB, h5]
              first | (refine ⟨by omega, ?_⟩; split <;> omega) | (split <;> omega) | omega
          · refine go ?_
            refine go_again (k + 1) ?_ ?_ ?_ sb
            · omega
            · omega
            · simp [AgreeL, At, maxB, h5]; omega
        · obtain rfl : k = j - a := by omega
          have h5 := Dv_eq (it := X.it) ha1
          refine go ?_
          refine GoL.mu (b := X.bd) (φ := dA X.it j a) (i := a) (j := j) (dA X.it j (a + 1)) rp (by omega) (by omega) (by omega) (fun a' c => by rw [dA_put ha1, h5]) ?_
          refine go ?_
          refine go_again (a + 1) ?_ ?_ ?_ sb
          · omega
          · omega
          · simp [AgreeL, At]
      · obtain rfl : a = j := by omega
        rw [dA_y]
        refine go ?_
        refine GoX.mem (H' := [.cells b5 (X.cs (.slice none 0 0)), .map2 X.bd (100 * (a + 1)) (dF X.it (a + 1)), .map2 X.br (100 * (a + 1)) (rF X.it (a + 1))]) (fun w hw => ((hw.mapUp (m := 100 * (a + 1)) (.there .here)).mapUp (.there (.there .here)))) ?_
        refine go_again (a + 1) ?_ ?_ ?_ sb
        · omega
        · omega
        · simp [AgreeL, At]
  · obtain rfl : y = X.l.length := by omega
    refine go ?_
    exact end1 (fun w' hw => ⟨(b5, X.bd, X.br), rfl, hw.done sb⟩)
end

section
set_option linter.all false
/-- a pair of a proof -/
structure LaP where
  path : Int
  fr : Int
  tt : Int
deriving DecidableEq
instance : Inhabited LaP := ⟨⟨0, 0, 0⟩⟩
/-- one pair comes before another -/
def ltP (x y : LaP) : Bool := decide (x.path < y.path ∨ (x.path = y.path ∧ (x.fr < y.fr ∨ (x.fr = y.fr ∧ y.tt < x.tt))))
def insP (x : LaP) : List LaP → List LaP
  | [] => [x]
  | y :: l => if ltP y x = true then y :: insP x l else x :: y :: l
def srtP (l : List LaP) : List LaP := l.foldr insP []
theorem ltP_iff {x y : LaP} : ltP x y = true ↔ x.path < y.path ∨ (x.path = y.path ∧ (x.fr < y.fr ∨ (x.fr = y.fr ∧ y.tt < x.tt))) := by simp [ltP]
theorem ltP_false {x y : LaP} : ltP x y = false ↔ ¬ (x.path < y.path ∨ (x.path = y.path ∧ (x.fr < y.fr ∨ (x.fr = y.fr ∧ y.tt < x.tt)))) := by rw [← ltP_iff, Bool.not_eq_true]
/-- in order: none comes before one that stands ahead of it -/
def SrtP (l : List LaP) : Prop := l.Pairwise fun x y => ltP y x = false
theorem insP_perm (x : LaP) : ∀ l, (insP x l).Perm (x :: l)
  | [] => .refl _
  | y :: l => by
    unfold insP
    split
    · exact ((insP_perm x l).cons y).trans (.swap _ _ _)
    · exact .refl _
theorem srtP_perm : ∀ l, (srtP l).Perm l
  | [] => .refl _
  | x :: l => (insP_perm x _).trans ((srtP_perm l).cons x)
theorem insP_srt (x : LaP) : ∀ {l}, SrtP l → SrtP (insP x l)
  | [], _ => by simp [insP, SrtP]
  | y :: l, h => by
    obtain ⟨h1, h2⟩ := List.pairwise_cons.1 h
    unfold insP
    split
    · rename_i hlt
      refine List.pairwise_cons.2 ⟨fun z hz => ?_, insP_srt x h2⟩
      rcases List.mem_cons.1 ((insP_perm x l).mem_iff.1 hz) with rfl | hz
      · rw [ltP_iff] at hlt; rw [ltP_false]; omega
      · exact h1 z hz
    · rename_i hlt
      refine List.pairwise_cons.2 ⟨fun z hz => ?_, h⟩
      rcases List.mem_cons.1 hz with rfl | hz
      · simpa using hlt
      · have h3 := h1 z hz
        rw [ltP_false] at h3 ⊢
        rw [ltP_iff] at hlt
        omega
theorem srtP_srt : ∀ l, SrtP (srtP l)
  | [] => List.Pairwise.nil
  | x :: l => insP_srt x (srtP_srt l)
theorem ltP_tri {x y : LaP} (h1 : ltP x y = false) (h2 : ltP y x = false) : x = y := by
  rw [ltP_false] at h1 h2
  obtain ⟨a, b, c⟩ := x; obtain ⟨a', b', c'⟩ := y
  simp only at h1 h2
  obtain rfl : a = a' := by omega
  obtain rfl : b = b' := by omega
  obtain rfl : c = c' := by omega
  rfl
/-- two lists in order with the same elements are equal -/
theorem srt_uniq : ∀ {l m : List LaP}, l.Perm m → SrtP l → SrtP m → l = m
  | [], m, h, _, _ => (List.Perm.nil_eq h)
  | x :: l, [], h, _, _ => by have := h.length_eq; simp at this
  | x :: l, y :: m, h, hl, hm => by
    obtain ⟨a1, a2⟩ := List.pairwise_cons.1 hl
    obtain ⟨b1, b2⟩ := List.pairwise_cons.1 hm
    have e : x = y := by
      have hx : x ∈ y :: m := h.mem_iff.1 (by simp)
      have hy : y ∈ x :: l := h.mem_iff.2 (by simp)
      rcases List.mem_cons.1 hx with e | hx
      · exact e
      rcases List.mem_cons.1 hy with e | hy
      · exact e.symm
      exact ltP_tri (b1 x hx) (a1 y hy)
    subst e
    rw [srt_uniq (List.Perm.cons_inv h) a2 b2]
theorem srtP_eq {l m : List LaP} (h : m.Perm l) (hs : SrtP m) : m = srtP l := srt_uniq (h.trans (srtP_perm l).symm) hs (srtP_srt l)
theorem srtP_len (l : List LaP) : (srtP l).length = l.length := (srtP_perm l).length_eq
theorem srtP_mem {l : List LaP} {x : LaP} : x ∈ srtP l ↔ x ∈ l := (srtP_perm l).mem_iff
end

section
set_option linter.all false
set_option pp.maxSteps 100000
set_option maxRecDepth 100000
set_option maxHeartbeats 4000000
open Go.RowKit

@[simp] def LaP.cs (x : LaP) : List Value := [.int .i64 x.path, .int .i64 x.fr, .int .i64 x.tt]
theorem LaP.one (x : LaP) : ∀ u ∈ x.cs, u.oneCell' = true := by intro u hu; simp at hu; rcases hu with rfl | rfl | rfl <;> rfl
theorem elP : ElemT Tryz.prog 34 83 3 24 := ElemT.mk' (z := .agg #[.int .i64 0, .int .i64 0, .int .i64 0]) Tryz.underlying34 (by kernel_rfl) rfl
abbrev tup0 : Unit → Value := fun _ => .tuple #[]
theorem add_v {w0 w : World} {Bs : List Nat} {F : List En} (x : PR) (b : Nat) (ps : List LaP) (av : Option Addr) (cv : Nat) (z y : Nat) (hm : Mem w0 Bs (.cells b (x.cs (.slice av ps.length cv)) :: .own LaP.cs 3 83 (.slice av ps.length cv) ps :: F) w) (hn : ps.length ≤ 100000) :
    Calls Tryz.prog 96 #[.pointer (some ⟨b, 0, none⟩), .int .i64 z, .int .i64 y] w (fun e w' => ∃ p : Option Addr × Nat, e = .returned (.tuple #[]) ∧ Mem w0 Bs (.cells b (x.cs (.slice p.1 (ps ++ [LaP.mk x.idx z y]).length p.2)) :: .own LaP.cs 3 83 (.slice p.1 (ps ++ [LaP.mk x.idx z y]).length p.2) (ps ++ [LaP.mk x.idx z y]) :: F) w') := by
  refine go_in0 Tryz.func96 rfl Tryz.ntmps96 hm ?_
  refine GoC.mem (H' := [.own LaP.cs 3 83 (.slice av ps.length cv) ps] ++ (.cells b (x.cs (.slice av ps.length cv)) :: F)) (fun w hw => hw.perm (.swap _ _ _)) ?_
  refine go_drw [.own LaP.cs 3 83 (.slice av ps.length cv) ps] (.cells b (x.cs (.slice av ps.length cv)) :: F) ?_
  refine go ?_
  refine D.e0 [] [] (fun X F => Ef.lit (f := LaP.cs) (m := 3) (e := 83) [LaP.mk x.idx z y] (fun _ => rfl) rfl) ?_
  refine go ?_
  refine D.e0 [] [17, 12] (fun X F => Ef.appS (f := LaP.cs) (l := ps) (l2 := [LaP.mk x.idx z y]) elP (fun _ => rfl) LaP.one (by simp only [List.length_cons, List.length_nil]; omega) .here .here) ?_
  refine go ?_
  refine D.nil [(13, fun X => .sl LaP.cs 3 83 (ps ++ [LaP.mk x.idx z y]) (X 13))] (fun X => GoL.slo fun a c hX => ?_) (hchk := (by show chkDD _ _ 1 [13] = true; decide +kernel))
  rw [hX]
  refine go ?_
  refine end0 (fun w' hw => ⟨(a, c), rfl, hw.perm (.swap _ _ _)⟩)

theorem dF_at {it : Nat → Int} {m a y : Nat} (h : y < m) : dF it m a y = Dv it a y := if_pos h
theorem rF_at {it : Nat → Int} {m a y : Nat} (h : y < m) : rF it m a y = Rv it a y := if_pos h
theorem inn_dF {it : Nat → Int} {m z y : Nat} (hz : z < y) (hy : y < m) : innB (fun v => decide (it v = it y)) (fun v => dF it m z v + rF it m v y) (dF it m z (y - 1) + 1) z (y - 1 - z) = innV it z y := by
  unfold innV
  rw [dF_at (by omega)]
  refine innB_congr _ fun w h1 h2 => ⟨rfl, fun _ => ?_⟩
  rw [dF_at (by omega), rF_at (by omega)]
/-- the memory of a proof that is written -/
abbrev wrH (x : PR) (b b1 b2 b3 N9 : Nat) (m : Nat) (G : List En) (ps : List LaP) (p : Option Addr × Nat) : List En :=
  .cells b (x.cs (.slice p.1 ps.length p.2)) :: .own LaP.cs 3 83 (.slice p.1 ps.length p.2) ps :: .map2 x.bd N9 (dF x.it m) :: .map2 x.br N9 (rF x.it m) :: .cells b1 [.pointer (some ⟨b, 0, none⟩)] ::
    .cells b2 [.func (.func 95) #[] #[.pointer (some ⟨b1, 0, none⟩), .pointer (some ⟨b2, 0, none⟩), .pointer (some ⟨b3, 0, none⟩)]] :: .cells b3 [.func (.func 97) #[] #[.pointer (some ⟨b1, 0, none⟩), .pointer (some ⟨b2, 0, none⟩), .pointer (some ⟨b3, 0, none⟩)]] :: G
abbrev wrP (x : PR) (l : List (Nat × Nat)) : List LaP := l.map fun q => LaP.mk x.idx q.1 q.2
theorem write2_v {w0 : World} {Bs : List Nat} {G : List En} (x : PR) (b b1 b2 b3 N9 : Nat) (hl : x.l.length ≤ 100) (hE : ∀ w, Mem w0 Bs G w → Rd Evt.cs 2 w x.ae x.l) (k : Nat)
    (hb : ∀ a y ps p w, Mem w0 Bs (wrH x b b1 b2 b3 N9 x.l.length G ps p) w → a ≤ y → y < x.l.length → prD true a y ≤ k → ps.length + 2 * (y - a) ≤ 1000 →
      Calls Tryz.prog 95 #[.int .i64 a, .int .i64 y, .pointer (some ⟨b1, 0, none⟩), .pointer (some ⟨b2, 0, none⟩), .pointer (some ⟨b3, 0, none⟩)] w (fun e w' => ∃ p, e = .returned (.tuple #[]) ∧ Mem w0 Bs (wrH x b b1 b2 b3 N9 x.l.length G (ps ++ wrP x (prs x.it k true a y)) p) w'))
    (hw2 : ∀ a y ps p w, Mem w0 Bs (wrH x b b1 b2 b3 N9 x.l.length G ps p) w → a < y → y < x.l.length → prD false a y ≤ k → ps.length + 2 * (y - a) ≤ 1001 →
      Calls Tryz.prog 97 #[.int .i64 a, .int .i64 y, .pointer (some ⟨b1, 0, none⟩), .pointer (some ⟨b2, 0, none⟩), .pointer (some ⟨b3, 0, none⟩)] w (fun e w' => ∃ p, e = .returned (.tuple #[]) ∧ Mem w0 Bs (wrH x b b1 b2 b3 N9 x.l.length G (ps ++ wrP x (prs x.it k false a y)) p) w'))
    (z y : Nat) (ps : List LaP) (p : Option Addr × Nat) (w : World) (hm : Mem w0 Bs (wrH x b b1 b2 b3 N9 x.l.length G ps p) w) (hz : z < y) (hy : y < x.l.length) (hk : prD false z y ≤ k + 1) (hps : ps.length + 2 * (y - z) ≤ 1001) :
      Calls Tryz.prog 97 #[.int .i64 z, .int .i64 y, .pointer (some ⟨b1, 0, none⟩), .pointer (some ⟨b2, 0, none⟩), .pointer (some ⟨b3, 0, none⟩)] w (fun e w' => ∃ p, e = .returned (.tuple #[]) ∧ Mem w0 Bs (wrH x b b1 b2 b3 N9 x.l.length G (ps ++ wrP x (prs x.it (k + 1) false z y)) p) w') := by
  have hpr : ∀ {ps p w}, Mem w0 Bs (wrH x b b1 b2 b3 N9 x.l.length G ps p) w → x.At b (.slice p.1 ps.length p.2) (dF x.it x.l.length) (rF x.it x.l.length) w := fun hw => ⟨hw.cells .here, hE _ (hw.sub (Sub.tl (Sub.tl (Sub.tl (Sub.tl (Sub.tl (Sub.tl (Sub.tl (Sub.refl _))))))))), ⟨_, hw.mapI pk⟩, ⟨_, hw.mapI pk⟩⟩
  refine go_in0 Tryz.func97 rfl Tryz.ntmps97 hm ?_
  dsimp only [wrH]
  refine go ?_
  have hG : ∀ w, Mem w0 Bs (.cells b (x.cs (.slice p.1 ps.length p.2)) :: .own LaP.cs 3 83 (.slice p.1 ps.length p.2) ps :: .map2 x.bd N9 (dF x.it x.l.length) :: .map2 x.br N9 (rF x.it x.l.length) :: .cells b1 [.pointer (some ⟨b, 0, none⟩)] ::
    .cells b2 [.func (.func 95) #[] #[.pointer (some ⟨b1, 0, none⟩), .pointer (some ⟨b2, 0, none⟩), .pointer (some ⟨b3, 0, none⟩)]] :: .cells b3 [.func (.func 97) #[] #[.pointer (some ⟨b1, 0, none⟩), .pointer (some ⟨b2, 0, none⟩), .pointer (some ⟨b3, 0, none⟩)]] :: G) w → x.At b (.slice p.1 ps.length p.2) (dF x.it x.l.length) (rF x.it x.l.length) w := fun w hw => hpr hw
  refine GoL.cv (fun w' hw => inner_v x b _ _ _ z y w' (hG w' hw) (bd_dF hl) (bd_rF hl) hz hy hl) ?_
  rw [inn_dF hz hy]
  refine go ?_
  refine go_if (fun h => ?_) (fun h => ?_)
  · refine go ?_
    rw [show ((y : Int) - 1) = ((y - 1 : Nat) : Int) by omega]
    refine GoL.cm (fun w' hw => hb z (y - 1) ps p w' hw (by omega) (by omega) (by simp [prD] at hk ⊢; omega) (by omega)) (fun p' => ?_)
    refine go ?_
    refine end0 (fun w' hw => ⟨p', rfl, ?_⟩)
    rw [prs, if_pos h]; exact hw
  · obtain ⟨g1, g2, g3, g4⟩ := innV_from (show ¬ (innV x.it z y).2 < 0 by omega)
    obtain ⟨v, hv⟩ : ∃ v, v = (innV x.it z y).2.toNat := ⟨_, rfl⟩
    have e2 : (innV x.it z y).2 = (v : Int) := by rw [hv]; exact g4
    rw [← hv] at g1 g2
    have hP : prs x.it (k + 1) false z y = prs x.it k true z v ++ (v, y) :: prs x.it k false v y := by rw [prs, if_neg (by omega), ← hv]
    have i1 := prs_len (it := x.it) k true z v (by omega) (fun h => by cases h)
    simp only [if_true] at i1
    rw [e2]
    clear e2 hv g4 g3 h
    refine go ?_
    refine GoL.cm (fun w' hw => hb z v ps p w' hw (by omega) (by omega) (by simp [prD] at hk ⊢; omega) (by omega)) (fun p' => ?_)
    refine go ?_
    generalize hq : ps ++ wrP x (prs x.it k true z v) = ps'
    have hql : ps'.length ≤ ps.length + (2 * (v - z) - 1) := by rw [← hq]; simp [wrP]; omega
    dsimp only [wrH]
    refine go ?_
    refine GoL.cm (fun w' hw => add_v x b ps' p'.1 p'.2 v y hw (by omega)) (fun p2 => ?_)
    refine go ?_
    generalize hq2 : ps' ++ [LaP.mk x.idx v y] = ps2
    have hql2 : ps2.length = ps'.length + 1 := by rw [← hq2]; simp
    refine GoL.cm (fun w' hw => hw2 v y ps2 p2 w' hw (by omega) (by omega) (by simp [prD] at hk ⊢; omega) (by omega)) (fun p3 => ?_)
    refine go ?_
    refine end0 (fun w' hw => ⟨p3, rfl, ?_⟩)
    rw [hP]
    have e : ps ++ wrP x (prs x.it k true z v ++ (v, y) :: prs x.it k false v y) = ps2 ++ wrP x (prs x.it k false v y) := by
      rw [← hq2, ← hq]; simp [wrP]
    rw [e]; exact hw

section
variable {w0 : World} {Bs : List Nat} {P : Program} {c : Code} {n : Nat} {ds : List Deferred} {L : List (Nat × Value)} {H : List En} {Q : Exit → Act → World → Prop}
theorem go_scope (h : GoC w0 Bs P c n ds L H (Exit.noGoto Q)) : GoC w0 Bs P (.scope c) n ds L H Q := .mk fun g w hw => wp_scope_straight (h.go g w hw)
theorem go_label {l : Nat} (h : GoX w0 Bs .normal n ds L H Q) : GoC w0 Bs P (.label l) n ds L H Q := .mk fun g w hw => wp_label (h.go g w hw)
theorem xn_n (h : GoX w0 Bs .normal n ds L H Q) : GoX w0 Bs .normal n ds L H (Exit.noGoto Q) := ⟨h.go⟩
theorem xn_r (h : GoX w0 Bs .ret n ds L H Q) : GoX w0 Bs .ret n ds L H (Exit.noGoto Q) := ⟨h.go⟩
end
theorem write1_v {w0 : World} {Bs : List Nat} {G : List En} (x : PR) (b b1 b2 b3 N9 : Nat) (hl : x.l.length ≤ 100) (hE : ∀ w, Mem w0 Bs G w → Rd Evt.cs 2 w x.ae x.l) (k : Nat)
    (hb : ∀ a y ps p w, Mem w0 Bs (wrH x b b1 b2 b3 N9 x.l.length G ps p) w → a ≤ y → y < x.l.length → prD true a y ≤ k → ps.length + 2 * (y - a) ≤ 1000 →
      Calls Tryz.prog 95 #[.int .i64 a, .int .i64 y, .pointer (some ⟨b1, 0, none⟩), .pointer (some ⟨b2, 0, none⟩), .pointer (some ⟨b3, 0, none⟩)] w (fun e w' => ∃ p, e = .returned (.tuple #[]) ∧ Mem w0 Bs (wrH x b b1 b2 b3 N9 x.l.length G (ps ++ wrP x (prs x.it k true a y)) p) w'))
    (hw2 : ∀ a y ps p w, Mem w0 Bs (wrH x b b1 b2 b3 N9 x.l.length G ps p) w → a < y → y < x.l.length → prD false a y ≤ k → ps.length + 2 * (y - a) ≤ 1001 →
      Calls Tryz.prog 97 #[.int .i64 a, .int .i64 y, .pointer (some ⟨b1, 0, none⟩), .pointer (some ⟨b2, 0, none⟩), .pointer (some ⟨b3, 0, none⟩)] w (fun e w' => ∃ p, e = .returned (.tuple #[]) ∧ Mem w0 Bs (wrH x b b1 b2 b3 N9 x.l.length G (ps ++ wrP x (prs x.it k false a y)) p) w'))
    (a y : Nat) (ps : List LaP) (p : Option Addr × Nat) (w : World) (hm : Mem w0 Bs (wrH x b b1 b2 b3 N9 x.l.length G ps p) w) (ha : a ≤ y) (hy : y < x.l.length) (hk : prD true a y ≤ k + 1) (hps : ps.length + 2 * (y - a) ≤ 1000) :
      Calls Tryz.prog 95 #[.int .i64 a, .int .i64 y, .pointer (some ⟨b1, 0, none⟩), .pointer (some ⟨b2, 0, none⟩), .pointer (some ⟨b3, 0, none⟩)] w (fun e w' => ∃ p, e = .returned (.tuple #[]) ∧ Mem w0 Bs (wrH x b b1 b2 b3 N9 x.l.length G (ps ++ wrP x (prs x.it (k + 1) true a y)) p) w') := by
  have hpr : ∀ {ps p w}, Mem w0 Bs (wrH x b b1 b2 b3 N9 x.l.length G ps p) w → x.At b (.slice p.1 ps.length p.2) (dF x.it x.l.length) (rF x.it x.l.length) w := fun hw => ⟨hw.cells .here, hE _ (hw.sub (Sub.tl (Sub.tl (Sub.tl (Sub.tl (Sub.tl (Sub.tl (Sub.tl (Sub.refl _))))))))), ⟨_, hw.mapI pk⟩, ⟨_, hw.mapI pk⟩⟩
  have hG : ∀ w, Mem w0 Bs (.cells b (x.cs (.slice p.1 ps.length p.2)) :: .own LaP.cs 3 83 (.slice p.1 ps.length p.2) ps :: .map2 x.bd N9 (dF x.it x.l.length) :: .map2 x.br N9 (rF x.it x.l.length) :: .cells b1 [.pointer (some ⟨b, 0, none⟩)] ::
    .cells b2 [.func (.func 95) #[] #[.pointer (some ⟨b1, 0, none⟩), .pointer (some ⟨b2, 0, none⟩), .pointer (some ⟨b3, 0, none⟩)]] :: .cells b3 [.func (.func 97) #[] #[.pointer (some ⟨b1, 0, none⟩), .pointer (some ⟨b2, 0, none⟩), .pointer (some ⟨b3, 0, none⟩)]] :: G) w → x.At b (.slice p.1 ps.length p.2) (dF x.it x.l.length) (rF x.it x.l.length) w := fun w hw => hpr hw
  refine go_in0 Tryz.func95 rfl Tryz.ntmps95 hm ?_
  refine go_scope ?_
  dsimp only [wrH]
  refine go ?_
  refine go_if (fun h => ?_) (fun h => ?_)
  · obtain rfl : a = y := by omega
    refine go ?_
    refine xn_r ?_
    refine end0 (fun w' hw => ⟨p, rfl, ?_⟩)
    rw [prs, if_pos rfl]; simp only [wrP, List.map_nil, List.append_nil]; exact hw
  have hay : a < y := by omega
  refine go ?_
  refine GoL.q ⟨_, Ex.mg (b := x.bd) (φ := dF x.it x.l.length) (i := a) (j := y) (by omega) (by omega) (fun w hw => ⟨_, hw.mapI pk⟩), ?_⟩
  rw [dF_at hy]
  have hd1 := Dv_bd (it := x.it) (y := y - 1) (by omega) a
  refine go ?_
  refine GoL.q ⟨_, Ex.mg (b := x.bd) (φ := dF x.it x.l.length) (i := a) (j := y - 1) (by omega) (by omega) (fun w hw => ⟨_, hw.mapI pk⟩) (hy := by intro g; simp only [evF_tmp, tab_cons, Nat.reduceLT, Nat.reduceEqDiff, ↓reduceIte]; rw [show ((y : Int) - 1) = ((y - 1 : Nat) : Int) by omega]), ?_⟩
  rw [dF_at (show y - 1 < x.l.length by omega)]
  refine go ?_
  refine go_if (fun h2 => ?_) (fun h2 => ?_)
  · refine go ?_
    rw [show ((y : Int) - 1) = ((y - 1 : Nat) : Int) by omega]
    refine GoL.cm (fun w' hw => hb a (y - 1) ps p w' hw (by omega) (by omega) (by simp [prD] at hk ⊢; omega) (by omega)) (fun p' => ?_)
    refine go ?_
    refine xn_r ?_
    refine end0 (fun w' hw => ⟨p', rfl, ?_⟩)
    rw [prs, if_neg (by omega), if_pos h2]; exact hw
  obtain ⟨f1, f2, f3, f4⟩ := fstZ_ok (it := x.it) hay h2
  obtain ⟨f, hf⟩ : ∃ f, f = fstZ x.it a y := ⟨_, rfl⟩
  have hP : prs x.it (k + 1) true a y = prs x.it k true a f ++ (f, y) :: prs x.it k false f y := by rw [prs, if_neg (by omega), if_neg h2, ← hf]
  rw [← hf] at f1 f2 f3 f4
  clear hf
  have i1 := prs_len (it := x.it) k true a f (by omega) (fun h => by cases h)
  simp only [if_true] at i1
  refine go_skip ?_
  refine xt_n ?_
  refine go_seq ?_
  refine go_reg ?_
  refine go ?_
  refine go_label ?_
  refine go ?_
  refine go_loop (X := Nat) (fun z => a ≤ z ∧ z ≤ f) (fun z => f - z) (fun z => [(8, .int .i64 z)]) (fun _ => wrH x b b1 b2 b3 N9 x.l.length G ps p) a [0, 1, 2, 3, 4, 7] ⟨Nat.le_refl _, f1⟩ (by simp [AgreeL, At]) (Sub.refl _) (fun z hz => ?_)
  dsimp only [wrH]
  refine go ?_
  refine GoL.cv (fun w' hw => same_v x b _ z y w' (hG w' hw).c (hG w' hw).e (by omega) hy hl) ?_
  refine go ?_
  have hdz := Dv_bd (it := x.it) (y := z) (by omega) a
  have hrz := Rv_bd (it := x.it) (y := y) (by omega) z
  refine GoL.jk 8 [(52, .bool (atZ x.it a y z))] [0, 1, 2, 3, 4, 7, 8] ?_ ?_
  · refine GoL.sp (fun h1 => ?_) (fun h1 => ?_)
    · refine go ?_
      refine GoL.cv (fun w' hw => chain_v x b _ _ _ a z y w' (hG w' hw) (bd_dF hl) (bd_rF hl) (by omega) (by omega) (by omega)) ?_
      rw [dF_at (show z < x.l.length by omega), rF_at hy]
      refine go ?_
      exact GoL.jd (by simp [AgreeL, At, h1, atZ]; rfl) (Sub.refl _)
    · refine go ?_
      exact GoL.jd (by simp [AgreeL, At, h1, atZ]) (Sub.refl _)
  refine go ?_
  refine go_if (fun h3 => ?_) (fun h3 => ?_)
  rotate_left
  · refine go ?_
    have hzf : ¬ z = f := fun e => by rw [e, f3] at h3; cases h3
    refine go_again (z + 1) ⟨by omega, by omega⟩ (by omega) (by simp [AgreeL, At]) (Sub.refl _)
  obtain rfl : z = f := by
    rcases Nat.lt_or_ge z f with h9 | h9
    · rw [f4 z hz.1 h9] at h3; cases h3
    · omega
  refine go ?_
  refine GoL.cm (fun w' hw => hb a z ps p w' hw (by omega) (by omega) (by simp [prD] at hk ⊢; omega) (by omega)) (fun p' => ?_)
  refine go ?_
  generalize hq : ps ++ wrP x (prs x.it k true a z) = ps'
  have hql : ps'.length ≤ ps.length + (2 * (z - a) - 1) := by rw [← hq]; simp [wrP]; omega
  dsimp only [wrH]
  refine go ?_
  refine GoL.cm (fun w' hw => add_v x b ps' p'.1 p'.2 z y hw (by omega)) (fun p2 => ?_)
  refine go ?_
  generalize hq2 : ps' ++ [LaP.mk x.idx z y] = ps2
  have hql2 : ps2.length = ps'.length + 1 := by rw [← hq2]; simp
  refine GoL.cm (fun w' hw => hw2 z y ps2 p2 w' hw (by omega) (by omega) (by simp [prD] at hk ⊢; omega) (by omega)) (fun p3 => ?_)
  refine go ?_
  refine xn_n ?_
  refine end0 (fun w' hw => ⟨p3, rfl, ?_⟩)
  rw [hP]
  have e : ps ++ wrP x (prs x.it k true a z ++ (z, y) :: prs x.it k false z y) = ps2 ++ wrP x (prs x.it k false z y) := by
    rw [← hq2, ← hq]; simp [wrP]
  rw [e]; exact hw
theorem write12_v {w0 : World} {Bs : List Nat} {G : List En} (x : PR) (b b1 b2 b3 N9 : Nat) (hl : x.l.length ≤ 100) (hE : ∀ w, Mem w0 Bs G w → Rd Evt.cs 2 w x.ae x.l) : ∀ k,
    (∀ a y ps p w, Mem w0 Bs (wrH x b b1 b2 b3 N9 x.l.length G ps p) w → a ≤ y → y < x.l.length → prD true a y ≤ k → ps.length + 2 * (y - a) ≤ 1000 →
      Calls Tryz.prog 95 #[.int .i64 a, .int .i64 y, .pointer (some ⟨b1, 0, none⟩), .pointer (some ⟨b2, 0, none⟩), .pointer (some ⟨b3, 0, none⟩)] w (fun e w' => ∃ p, e = .returned (.tuple #[]) ∧ Mem w0 Bs (wrH x b b1 b2 b3 N9 x.l.length G (ps ++ wrP x (prs x.it k true a y)) p) w')) ∧
    (∀ a y ps p w, Mem w0 Bs (wrH x b b1 b2 b3 N9 x.l.length G ps p) w → a < y → y < x.l.length → prD false a y ≤ k → ps.length + 2 * (y - a) ≤ 1001 →
      Calls Tryz.prog 97 #[.int .i64 a, .int .i64 y, .pointer (some ⟨b1, 0, none⟩), .pointer (some ⟨b2, 0, none⟩), .pointer (some ⟨b3, 0, none⟩)] w (fun e w' => ∃ p, e = .returned (.tuple #[]) ∧ Mem w0 Bs (wrH x b b1 b2 b3 N9 x.l.length G (ps ++ wrP x (prs x.it k false a y)) p) w'))
  | 0 => ⟨fun a y _ _ _ _ _ _ h => by simp [prD] at h, fun a y _ _ _ _ h1 _ h => by simp [prD] at h; omega⟩
  | k + 1 => by
    obtain ⟨i1, i2⟩ := write12_v x b b1 b2 b3 N9 hl hE k
    exact ⟨write1_v x b b1 b2 b3 N9 hl hE k i1 i2, write2_v x b b1 b2 b3 N9 hl hE k i1 i2⟩
/-- the pairs of a path's events -/
def prsL (it : Nat → Int) (m : Nat) : List (Nat × Nat) := prs it (2 * m) true 0 (m - 1)
theorem write_v {w0 w : World} {Bs : List Nat} {G : List En} (x : PR) (b N9 : Nat) (hl : 1 ≤ x.l.length ∧ x.l.length ≤ 100) (hE : ∀ w, Mem w0 Bs G w → Rd Evt.cs 2 w x.ae x.l)
    (hm : Mem w0 Bs (.cells b (x.cs (.slice none 0 0)) :: .map2 x.bd N9 (dF x.it x.l.length) :: .map2 x.br N9 (rF x.it x.l.length) :: G) w) :
    Calls Tryz.prog 49 #[.pointer (some ⟨b, 0, none⟩)] w (fun e w' => ∃ p : Option Addr × Nat, e = .returned (.tuple #[]) ∧ Mem w0 Bs (.cells b (x.cs (.slice p.1 (wrP x (prsL x.it x.l.length)).length p.2)) :: .own LaP.cs 3 83 (.slice p.1 (wrP x (prsL x.it x.l.length)).length p.2) (wrP x (prsL x.it x.l.length)) :: .map2 x.bd N9 (dF x.it x.l.length) :: .map2 x.br N9 (rF x.it x.l.length) :: G) w') := by
  refine go_in0 Tryz.func49 rfl Tryz.ntmps49 hm ?_
  refine go ?_
  refine GoL.a (fun b1 => ?_)
  refine go ?_
  refine GoL.a (fun b2 => ?_)
  refine go ?_
  refine GoL.a (fun b3 => ?_)
  refine go ?_
  rw [show ((x.l.length : Int) - 1) = ((x.l.length - 1 : Nat) : Int) by omega]
  refine GoL.mem (H' := wrH x b b1 b2 b3 N9 x.l.length G [] (none, 0)) (fun w hw => ((Mem.own0 LaP.cs 3 83 hw).sub (Sub.cons pk (Sub.cons pk (Sub.cons pk (Sub.cons pk (Sub.cons pk (Sub.cons pk (Sub.cons pk (Sub.refl _)))))))))) ?_
  refine GoL.cm (fun w' hw => (write12_v x b b1 b2 b3 N9 hl.2 hE (2 * x.l.length)).1 0 (x.l.length - 1) [] (none, 0) w' hw (Nat.zero_le _) (by omega) (by simp [prD]; omega) (by simp; omega)) (fun p' => ?_)
  refine go ?_
  refine end0 (fun w' hw => ⟨p', rfl, ?_⟩)
  exact hw.sub (Sub.cons pk (Sub.cons pk (Sub.cons pk (Sub.cons pk (Sub.tl (Sub.tl (Sub.tl (Sub.refl _))))))))
end

section
set_option linter.all false
open Go.RowKit

theorem ic_flat (l : List Int) : l.flatMap (fun x => [Value.int .i64 x]) = ic l := by induction l with
  | nil => rfl
  | cons x l ih => rw [List.flatMap_cons, ih]; rfl
/-- a block of numbers, read as a list -/
theorem rdC {w : World} {g : Nat} {l : List Int} (h : Cells w g (ic l)) : Rd (fun x => [Value.int .i64 x]) 1 w (some ⟨g, 0, none⟩) l :=
  Cells.rd (f := fun x => [Value.int .i64 x]) (m := 1) (fun _ => rfl) (by rw [ic_flat]; exact h)
section
variable {w0 : World} {Bs : List Nat} {P : Program} {n : Nat} {L : List (Nat × Value)} {H H' : List En} {ops : Array Oper} {K : (Nat → Value) → World → Prop} {os : List Oper} {u v : Value} {d : Nat} {T ty : TypeId} {pos : String} {af : Array Edge} {gd : Option (Nat × Bool)} {x y : Operand}
theorem Mem.o2c {w : World} {f : Int → List Value} (hf : f = fun x => [Value.int .i64 x]) {T : TypeId} {g k c : Nat} {l : List Int} (h : Mem w0 Bs H w) (p : Rep (.own f 1 T (.slice (some ⟨g, 0, none⟩) k c) l) (.cells g (ic l)) H H') : Mem w0 Bs H' w :=
  h.to p fun S hS => ⟨hS.1 g rfl, by have := hS.2.toCells; subst hf; rw [ic_flat] at this; exact this⟩
/-- a new list of zeros -/
theorem GoL.mks {t e : TypeId} {k : Nat} {f : Int → List Value} (hf : f = fun x => [Value.int .i64 x]) (het : ElemT P t e 1 8) (hz : ∀ i, P.info? e = some i → i.zero = some (.int .i64 0)) (hk : k ≤ 100000) (hr : ∀ b, GoL w0 Bs P ops n K os ((d, .slice (some ⟨b, 0, none⟩) k k) :: L) (.cells b (ic (List.replicate k 0)) :: H))
    (hx : ∀ g, evF n (tab L g) x = .int .i64 k := by intro g; simp only [evF_tmp, evF_const, tab_cons, Nat.reduceLT, Nat.reduceEqDiff, ↓reduceIte]; (try rfl)) (hy : ∀ g, evF n (tab L g) y = .int .i64 k := by intro g; simp only [evF_tmp, evF_const, tab_cons, Nat.reduceLT, Nat.reduceEqDiff, ↓reduceIte]; (try rfl)) : GoL w0 Bs P ops n K (⟨some d, .makeSlice t x y, ty, pos, af, none⟩ :: os) L H :=
  .mk fun g w hw => listF_step rfl fun K' hK => by
    obtain ⟨i, z, hi, hzz, hs, hb, hzs⟩ := het.he
    have hz0 := hz i hi
    rw [hz0] at hzz
    cases hzz
    obtain ⟨w', h1, h2, h3⟩ := run_make_full (P := P) (w := w) w.heap.size t e i (.int .i64 0) 1 het.ht hi hz0 hs .i64 .i64 k (by rw [hb]; omega) (by unfold maxLen; omega) (Nat.le_refl _)
    have hm : (madeCells (Value.int .i64 0).cells (k * 1)).toList = (List.replicate k (0 : Int)).flatMap f := by
      subst hf
      rw [ic_flat, Nat.mul_one]
      simp [madeCells, ic, Value.cells]
      apply List.ext_getElem (by simp)
      intro j h1 h2
      simp [Nat.mod_one]
    have ho : Own f 1 e w.heap.size w' (.slice (some ⟨w.heap.size, 0, none⟩) k k) (List.replicate k (0 : Int)) := Own.of (n := k) (by simp) hm h2
    have hmem : Mem w0 Bs (.own f 1 e (.slice (some ⟨w.heap.size, 0, none⟩) k k) (List.replicate k (0 : Int)) :: H) w' := hw.newOwn h3 (fun k hk => by simp [Value.ownBlock] at hk; omega) (ho.base (Nat.zero_le _))
    unfold opF
    have : (execOp (evF n (tab L g)) ⟨some d, .makeSlice t x y, ty, pos, af, none⟩).run P w = .ok (.value (.slice (some ⟨w.heap.size, 0, none⟩) k k)) w' := by
      simp only [execOp, hx g, hy g, Sem.run_bind, h1, Result.andThen_ok, Sem.run_pure]
    rw [this]
    exact hK _ _ ((hr _).go g w' (hmem.o2c hf .here))
/-- a store at an element of a list of numbers -/
theorem GoL.sr {b i : Nat} {l : List Int} {z : Int} (p : Rep (.cells b (ic l)) (.cells b (ic (l.set i z))) H H') (hi : i < l.length) (hr : GoL w0 Bs P ops n K os L H')
    (hx : ∀ g, evF n (tab L g) x = rowE (some ⟨b, 0, none⟩) i 1 0 := by intro g; simp only [evF_tmp, tab_cons, Nat.reduceLT, Nat.reduceEqDiff, ↓reduceIte]; (try rfl))
    (hy : ∀ g, evF n (tab L g) y = .int .i64 z := by intro g; simp only [evF_tmp, evF_const, tab_cons, Nat.reduceLT, Nat.reduceEqDiff, ↓reduceIte]; (try rfl))
    (hs : ∀ w (R : Result Nat → Prop), R (.ok 1 w) → R ((sizeOf T).run P w) := by intro w R hR; go_simp; exact hR) : GoL w0 Bs P ops n K (⟨none, .store T x y, ty, pos, af, none⟩ :: os) L H :=
  GoL.sa p hi hr (fun g => by rw [hx g]; simp [rowE, bk, fo]) hy hs
/-- copy, into a block of cells -/
theorem GoL.cp {T2 e : TypeId} {b o dl dc sl sc : Nat} {a : Addr} {l l' cs : List Value} (p : Rep (.cells b l) (.cells b l') H H') (hu : P.underlying T = some (.slice e)) (hs : (P.info? e).map (·.size) = some 1)
    (hn : cs.length = Nat.min sl dl) (hl : setLs l o cs = l') (hfit : o + cs.length ≤ l.length) (hone : ∀ v ∈ cs, v.oneCell' = true) (hsrc : ∀ w, Mem w0 Bs H w → ∀ j v, cs[j]? = some v → w.cell? (a.add j) = some v) (hr : GoL w0 Bs P ops n K os ((d, .int .i64 cs.length) :: L) H')
    (hx : ∀ g, evF n (tab L g) x = .slice (some ⟨b, o, none⟩) dl dc := by intro g; simp only [evF_tmp, tab_cons, Nat.reduceLT, Nat.reduceEqDiff, ↓reduceIte]; (try rfl)) (hy : ∀ g, evF n (tab L g) y = .slice (some a) sl sc := by intro g; simp only [evF_tmp, tab_cons, Nat.reduceLT, Nat.reduceEqDiff, ↓reduceIte]; (try rfl)) :
    GoL w0 Bs P ops n K (⟨some d, .call { callee := .builtin .copy, args := #[x, y], argTypes := #[T, T2] }, ty, pos, af, none⟩ :: os) L H :=
  .mk fun g w hw => listF_step rfl fun K' hK => by
    obtain ⟨K2, p1, p2⟩ := p.split
    have hc : Cells w b l := by obtain ⟨S, hx, _⟩ := (hw.perm p1).head; exact hx.2
    obtain ⟨w', h1, h2, h3⟩ := run_storeCells (P := P) (off := o) cs 0 w l hc (by omega) hone
    have hld : (loadCellsFrom a 0 cs.length #[]).run P w = .ok cs.toArray w := by
      have := run_loadCells (P := P) (w := w) (a := a) cs.length 0 #[] cs (Nat.le_refl _) (fun j u hj => by rw [Nat.zero_add]; exact hsrc w hw j u hj)
      rw [this]; simp
    have hrun : (Builtin.copy_ #[T, T2] ty #[.slice (some ⟨b, o, none⟩) dl dc, .slice (some a) sl sc]).run P w = .ok (.int .i64 cs.length) w' := by
      cases hq : P.info? e with
      | none => simp [hq] at hs
      | some i =>
        have hi : i.size = 1 := by simpa [hq] using hs
        simp [Builtin.copy_, run_underlying hu, Builtin.lenOf, Builtin.firstCells, sizeOf, typeInfo, hq, hi, ← hn, loadCells, hld, h1, goInt]
    unfold opF
    have : (execOp (evF n (tab L g)) ⟨some d, .call { callee := .builtin .copy, args := #[x, y], argTypes := #[T, T2] }, ty, pos, af, none⟩).run P w = .ok (.value (.int .i64 cs.length)) w' := by
      rw [Go.BigFrame.execOp_builtin, Go.BigFrame.builtin_copy, show #[x, y].map (evF n (tab L g)) = #[evF n (tab L g) x, evF n (tab L g) y] from by simp, hx g, hy g, Sem.run_bind, hrun]; rfl
    rw [this]
    rw [Nat.add_zero, hl] at h3
    exact hK _ _ (hr.go g w' (hw.only p h2 h3))
theorem Ef.cp {T2 e : TypeId} {b o dl dc sl sc : Nat} {a : Addr} {l l' cs : List Value} (p : Pick (.cells b l) H H') (hu : P.underlying T = some (.slice e)) (hs : (P.info? e).map (·.size) = some 1)
    (hn : cs.length = Nat.min sl dl) (hl : setLs l o cs = l') (hfit : o + cs.length ≤ l.length) (hone : ∀ v ∈ cs, v.oneCell' = true) (hsrc : ∀ w, Mem w0 Bs H w → ∀ j v, cs[j]? = some v → w.cell? (a.add j) = some v)
    (hx : ∀ g, evF n (tab L g) x = .slice (some ⟨b, o, none⟩) dl dc := by intro g; simp only [evF_tmp, tab_cons, Nat.reduceLT, Nat.reduceEqDiff, ↓reduceIte]; (try rfl)) (hy : ∀ g, evF n (tab L g) y = .slice (some a) sl sc := by intro g; simp only [evF_tmp, tab_cons, Nat.reduceLT, Nat.reduceEqDiff, ↓reduceIte]; (try rfl)) :
    Ef w0 Bs P n ⟨some d, .call { callee := .builtin .copy, args := #[x, y], argTypes := #[T, T2] }, ty, pos, af, gd⟩ L H (fun v => .star [.pure (v = .int .i64 cs.length), .cells b l']) H' := fun g w hw => by
    have hm := hw.pick p
    have hc : Cells w b l := hm.cells .here
    obtain ⟨w', h1, h2, h3⟩ := run_storeCells (P := P) (off := o) cs 0 w l hc (by omega) hone
    have hld : (loadCellsFrom a 0 cs.length #[]).run P w = .ok cs.toArray w := by
      have := run_loadCells (P := P) (w := w) (a := a) cs.length 0 #[] cs (Nat.le_refl _) (fun j u hj => by rw [Nat.zero_add]; exact hsrc w hw j u hj)
      rw [this]; simp
    have hrun : (Builtin.copy_ #[T, T2] ty #[.slice (some ⟨b, o, none⟩) dl dc, .slice (some a) sl sc]).run P w = .ok (.int .i64 cs.length) w' := by
      cases hq : P.info? e with
      | none => simp [hq] at hs
      | some i =>
        have hi : i.size = 1 := by simpa [hq] using hs
        simp [Builtin.copy_, run_underlying hu, Builtin.lenOf, Builtin.firstCells, sizeOf, typeInfo, hq, hi, ← hn, loadCells, hld, h1, goInt]
    unfold opF
    have : (execOp (evF n (tab L g)) ⟨some d, .call { callee := .builtin .copy, args := #[x, y], argTypes := #[T, T2] }, ty, pos, af, gd⟩).run P w = .ok (.value (.int .i64 cs.length)) w' := by
      rw [Go.BigFrame.execOp_builtin, Go.BigFrame.builtin_copy, show #[x, y].map (evF n (tab L g)) = #[evF n (tab L g) x, evF n (tab L g) y] from by simp, hx g, hy g, Sem.run_bind, hrun]; rfl
    rw [this]
    rw [Nat.add_zero, hl] at h3
    exact Mem.starI (A := [_, _]) (Mem.pureI rfl (hm.only .here h2 h3))
/-- the address of an element of a list of numbers -/
theorem Ex.xi {b i k c : Nat} {l : List Int} {kd : IntKind} {z : Int} {e : TypeId} (hi : i < l.length) (hk : l.length = k) (hz : z = i) (hx : ∀ g, evF n (tab L g) x = .slice (some ⟨b, 0, none⟩) k c := by intro g; simp only [evF_tmp, tab_cons, Nat.reduceLT, Nat.reduceEqDiff, ↓reduceIte]; (try rfl))
    (hy : ∀ g, evF n (tab L g) y = .int kd z := by intro g; simp only [evF_tmp, evF_const, tab_cons, Nat.reduceLT, Nat.reduceEqDiff, ↓reduceIte]; (try rfl))
    (ht : ∀ w (R : Result TypeDesc → Prop), R (.ok (.slice e) w) → R ((underlying T).run P w) := by intro w R hR; go_simp; exact hR) (hs : ∀ w (R : Result Nat → Prop), R (.ok 1 w) → R ((sizeOf e).run P w) := by intro w R hR; go_simp; exact hR) : Ex w0 Bs P n ⟨some d, .indexAddr T x y, ty, pos, af, gd⟩ L H (rowE (some ⟨b, 0, none⟩) i 1 0) := fun g w hw => by
  subst hk
  subst hz
  have hb : 0 ≤ (i : Int) ∧ (i : Int) < (l.length : Int) := by omega
  simp only [execOp, Instr.indexAt, asIntOf, hx g, hy g, Sem.run_bind, Sem.run_pure, Result.andThen_ok, ht w (fun r => r = _) rfl, hs w (fun r => r = _) rfl, hb, and_self, if_true, rowE, add_none, bk, fo, Option.getD_some, Nat.add_zero, Int.toNat_natCast]
/-- an element of a list of numbers -/
theorem Ex.li {b i : Nat} {l : List Int} (hi : i < l.length) (hc : ∀ w, Mem w0 Bs H w → Cells w b (ic l)) (hx : ∀ g, evF n (tab L g) x = rowE (some ⟨b, 0, none⟩) i 1 0 := by intro g; simp only [evF_tmp, tab_cons, Nat.reduceLT, Nat.reduceEqDiff, ↓reduceIte]; (try rfl))
    (h : ∀ w (R : Result Bool → Prop), R (.ok false w) → R ((isAgg T).run P w) := by intro w R hR; go_simp; exact hR) : Ex w0 Bs P n ⟨some d, .load T x, ty, pos, af, gd⟩ L H (.int .i64 (lx l i)) :=
  Ex.la (b := b) (i := i) hc hi (fun g => by rw [hx g]; simp [rowE, bk, fo]) h
/-- a store at an element of a list of numbers, among operations that draw their order -/
theorem Ef.sr {b i : Nat} {l : List Int} {z : Int} (p : Pick (.cells b (ic l)) H H') (hi : i < l.length) (hx : ∀ g, evF n (tab L g) x = rowE (some ⟨b, 0, none⟩) i 1 0 := by intro g; simp only [evF_tmp, tab_cons, Nat.reduceLT, Nat.reduceEqDiff, ↓reduceIte]; (try rfl))
    (hy : ∀ g, evF n (tab L g) y = .int .i64 z := by intro g; simp only [evF_tmp, evF_const, tab_cons, Nat.reduceLT, Nat.reduceEqDiff, ↓reduceIte]; (try rfl)) (hs : ∀ w (R : Result Nat → Prop), R (.ok 1 w) → R ((sizeOf T).run P w) := by intro w R hR; go_simp; exact hR) :
    Ef w0 Bs P n ⟨none, .store T x y, ty, pos, af, gd⟩ L H (fun _ => .cells b (ic (l.set i z))) H' := fun g w hw => by
  have hm := hw.pick p
  obtain ⟨w', h1, h2, h3⟩ := run_storeCells (P := P) (off := i) [.int .i64 z] 0 w (ic l) (hm.cells .here) (by simp; omega) (by simp [Value.oneCell'])
  have : (execOp (evF n (tab L g)) ⟨none, .store T x y, ty, pos, af, gd⟩).run P w = .ok .skip w' := by
    have e : rowE (some ⟨b, 0, none⟩) i 1 0 = .pointer (some ⟨b, i, none⟩) := by simp [rowE, bk, fo]
    simp only [execOp, Instr.storeAt, Instr.sureAddr, storeVar, hx g, hy g, e, Sem.run_bind, Sem.run_pure, Result.andThen_ok, hs w (fun r => r = _) rfl, Value.cells, List.size_toArray, List.length_cons, List.length_nil, ne_eq, not_true_eq_false, if_false]
    rw [h1]; rfl
  unfold opF; rw [this]
  simp only [Nat.add_zero, setLs, ic_set] at h3
  exact hm.only .here h2 h3
theorem Ef.sa {b i : Nat} {l : List Int} {z : Int} (p : Pick (.cells b (ic l)) H H') (hi : i < l.length) (hx : ∀ g, evF n (tab L g) x = .pointer (some ⟨b, i, none⟩) := by intro g; simp only [evF_tmp, tab_cons, Nat.reduceLT, Nat.reduceEqDiff, ↓reduceIte]; (try rfl))
    (hy : ∀ g, evF n (tab L g) y = .int .i64 z := by intro g; simp only [evF_tmp, evF_const, tab_cons, Nat.reduceLT, Nat.reduceEqDiff, ↓reduceIte]; (try rfl)) (hs : ∀ w (R : Result Nat → Prop), R (.ok 1 w) → R ((sizeOf T).run P w) := by intro w R hR; go_simp; exact hR) :
    Ef w0 Bs P n ⟨none, .store T x y, ty, pos, af, gd⟩ L H (fun _ => .cells b (ic (l.set i z))) H' :=
  Ef.sr p hi (fun g => by rw [hx g]; simp [rowE, bk, fo]) hy hs
end
end

section
set_option linter.all false
set_option pp.maxSteps 100000
set_option maxRecDepth 100000
set_option maxHeartbeats 4000000
open Go.RowKit

section
variable {w0 : World} {Bs : List Nat} {P : Program} {n : Nat} {L : List (Nat × Value)} {H H1 H2 : List En} {u v : Value} {d : Nat} {T ty : TypeId} {pos : String} {af : Array Edge} {gd : Option (Nat × Bool)} {x y : Operand} {o : Oper}
/-- append to a list that is known by its value -/
theorem Ef.appU {α : Type} {f : α → List Value} {m bytes : Nat} {t e : TypeId} {l l2 : List α} {a : Option Addr} {c : Nat} (het : ElemT P t e m bytes) (hf : ∀ x, (f x).length = m) (hone : ∀ x, ∀ u ∈ f x, u.oneCell' = true) (hbytes : ((l.length + l2.length) + (l.length + l2.length) / 4 + 192) * bytes ≤ 140737488355328)
    (p : Pick (.sl f m e l v) H H1) (hrd : ∀ w, Mem w0 Bs H1 w → Rd f m w a l2) (hx : ∀ g, evF n (tab L g) x = v := by intro g; simp only [evF_tmp, tab_cons, Nat.reduceLT, Nat.reduceEqDiff, ↓reduceIte]; (try rfl))
    (hy : ∀ g, evF n (tab L g) y = .slice a l2.length c := by intro g; simp only [evF_tmp, tab_cons, Nat.reduceLT, Nat.reduceEqDiff, ↓reduceIte]; (try rfl)) (hd : d < n := by decide) :
    Ef w0 Bs P n ⟨some d, .call { callee := .builtin .append, args := #[x, y], argTypes := #[t, t] }, ty, pos, af, gd⟩ L H (.sl f m e (l ++ l2)) H1 := fun g w hw => by
  have h1 : Mem w0 Bs (.sl f m e l v :: H1) w := hw.perm p.perm
  obtain ⟨a', c', hv, h2⟩ := h1.slE
  exact Ef.app (H := .own f m e (.slice a' l.length c') l :: H1) het hf hone hbytes .here (fun w hw => hrd w (hw.sub (Sub.tl (Sub.refl _)))) (fun g => (hx g).trans hv) hy hd g w h2
end
/-- a cell of a list of small numbers -/
@[simp] def ucell (x : Int) : List Value := [.int .u8 x]
def natA (m : Nat) : List Int := (List.range m).map fun (i : Nat) => (i : Int)
theorem natA_len (m : Nat) : (natA m).length = m := by simp [natA]
theorem natA_succ (m : Nat) : natA m ++ [(m : Int)] = natA (m + 1) := by simp [natA, List.range_succ]
def anyK (x : List Int) (i m : Nat) : Nat := if x.length = 0 then 0 else (lx x (i % x.length) % (m : Int)).toNat
def cutL (l : List Int) (k : Nat) : List Int := l.take k ++ l.drop (k + 1)
/-- the addresses that are left, and the layout, after i items -/
def anyT (m : Nat) (x : List Int) : Nat → List Int × List Int
  | 0 => (natA m, [])
  | i + 1 => (cutL (anyT m x i).1 (anyK x i (anyT m x i).1.length), (anyT m x i).2 ++ [lx (anyT m x i).1 (anyK x i (anyT m x i).1.length)])
def lefT (m : Nat) (x : List Int) (i : Nat) : List Int := (anyT m x i).1
def outT (m : Nat) (x : List Int) (i : Nat) : List Int := (anyT m x i).2
def anyL (t : TD) (x : List Int) : List Int := outT (t.lines * 16).toNat x (t.os.length + t.data.toNat)
theorem lefT_succ {m : Nat} {x : List Int} {i k : Nat} (h : anyK x i (lefT m x i).length = k) : cutL (lefT m x i) k = lefT m x (i + 1) := by subst h; rfl
theorem outT_succ {m : Nat} {x : List Int} {i k : Nat} (h : anyK x i (lefT m x i).length = k) : outT m x i ++ [lx (lefT m x i) k] = outT m x (i + 1) := by subst h; rfl
theorem anyK_lt {x : List Int} {i m : Nat} (h : 0 < m) : anyK x i m < m := by
  unfold anyK
  split
  · exact h
  · have h1 := Int.emod_nonneg (lx x (i % x.length)) (b := (m : Int)) (by omega)
    have h2 := Int.emod_lt_of_pos (lx x (i % x.length)) (b := (m : Int)) (by omega)
    omega
theorem cutL_len {l : List Int} {k : Nat} (h : k < l.length) : (cutL l k).length + 1 = l.length := by unfold cutL; rw [List.length_append, List.length_take, List.length_drop]; omega
theorem anyT_len {m : Nat} {x : List Int} : ∀ i, i ≤ m → (lefT m x i).length + i = m ∧ (outT m x i).length = i
  | 0, _ => by simp [lefT, outT, anyT, natA_len]
  | i + 1, h => by
    obtain ⟨h2, h3⟩ := anyT_len (m := m) (x := x) i (by omega)
    rw [← lefT_succ rfl, ← outT_succ rfl]
    have hk := anyK_lt (x := x) (i := i) (m := (lefT m x i).length) (by omega)
    have := cutL_len hk
    rw [List.length_append, h3]
    refine ⟨by omega, rfl⟩
theorem wrap_rem {u : Int} {p : Nat} (hp : 0 < p) (hu : 0 ≤ u ∧ u ≤ 1000000) : u.tmod p = ((u % (p : Int)).toNat : Int) := by
  have h1 := Int.emod_nonneg u (b := (p : Int)) (by omega)
  rw [Int.tmod_eq_emod_of_nonneg hu.1, Int.toNat_of_nonneg h1]
theorem items_ref (t : TD) (w : World) (hn : t.Len) (hd : 0 ≤ t.data ∧ t.data ≤ 16) (ho : t.os.length ≤ 24) :
    Calls Tryz.prog 30 #[.agg #[.slice t.ao t.os.length t.co, .int .i64 t.data, .int .i64 t.lines, .slice t.ap t.ps.length t.cp]] w (fun e w' => e = .returned (.int .i64 ((t.os.length : Int) + t.data)) ∧ Below w.heap.size w w') := by
  refine go_in Tryz.func30 rfl Tryz.ntmps30 [] [] (Mem.start _) ?_
  refine go ?_
  refine GoL.a (fun b1 => ?_)
  refine go ?_
  exact ev1 rfl
theorem Any_v (t : TD) (x : List Int) (ax : Option Addr) (cx : Nat) (w : World) (hn : t.Len) (ho : 1 ≤ t.os.length ∧ t.os.length ≤ 24) (hd : 0 ≤ t.data ∧ t.data ≤ 16) (hl1 : 1 ≤ t.lines ∧ t.lines ≤ 8) (hit : (t.os.length : Int) + t.data ≤ t.lines * 16) (hx : Rd ucell 1 w ax x) (hxl : x.length ≤ 9223372036854775807) (hxb : ∀ a ∈ x, 0 ≤ a ∧ a ≤ 255) :
    Calls Tryz.prog 29 #[.agg #[.slice t.ao t.os.length t.co, .int .i64 t.data, .int .i64 t.lines, .slice t.ap t.ps.length t.cp], .slice ax x.length cx] w (Ret (fun q : Option Addr × Nat => .slice q.1 (anyL t x).length q.2) (fun q => [.own icell 1 3 (.slice q.1 (anyL t x).length q.2) (anyL t x)]) w) := by
  obtain ⟨m, hm⟩ : ∃ m : Nat, t.lines * 16 = m := ⟨(t.lines * 16).toNat, by omega⟩
  obtain ⟨n, hn2⟩ : ∃ n : Nat, (t.os.length : Int) + t.data = n := ⟨t.os.length + t.data.toNat, by omega⟩
  have hnm : n ≤ m := by omega
  have hA : anyL t x = outT m x n := by unfold anyL; rw [show (t.lines * 16).toNat = m by omega, show t.os.length + t.data.toNat = n by omega]
  have hmb : m ≤ 128 := by omega
  rw [hA]
  refine go_in Tryz.func29 rfl Tryz.ntmps29 [] [] (Mem.start _) ?_
  refine go ?_
  refine GoL.a (fun b2 => ?_)
  refine go ?_
  refine GoC.mem (fun w hw => Mem.own0 icell 1 3 (Mem.own0 icell 1 3 hw)) ?_
  refine go_loop (X := Nat × Option Addr × Nat) (fun y => y.1 ≤ m) (fun y => m - y.1) (fun y => [(7, .int .i64 y.1), (5, .slice y.2.1 (natA y.1).length y.2.2)])
    (fun y => [.cells b2 [.slice t.ao t.os.length t.co, .int .i64 t.data, .int .i64 t.lines, .slice t.ap t.ps.length t.cp], .own icell 1 3 (.slice y.2.1 (natA y.1).length y.2.2) (natA y.1), .own icell 1 3 (.slice none 0 0) []]) (0, none, 0) [1, 2, 4, 6] (Nat.zero_le _) (by simp [AgreeL, At, natA]) (by simp only [natA, List.range_zero, List.map_nil]; exact sb) (fun y hy => ?_)
  obtain ⟨k, a1, c1⟩ := y
  dsimp only at hy ⊢
  have hm1 := hid (natA_len k)
  refine go ?_
  refine go_if (fun h2 => ?_) (fun h2 => ?_)
  · have hk : k < m := by simpa using h2
    refine go ?_
    refine GoL.sl (Ef.lit (f := icell) (m := 1) (e := 3) [(k : Int)] (fun _ => rfl) rfl) (fun a3 c3 => ?_)
    refine go ?_
    refine GoL.sl (Ef.app (f := icell) (l := natA k) (l2 := [(k : Int)]) (v := .slice a1 (natA k).length c1) elI (fun _ => rfl) icell_one (by have := hm1.out; simp only [List.length_cons, List.length_nil]; omega) pk (fun w hw => hw.ownRd (l := [(k : Int)]) pk)) (fun a4 c4 => ?_)
    rw [natA_succ]
    refine go ?_
    exact go_again (k + 1, a4, c4) hk (by simp only; omega) (by simp [AgreeL, At]) sb
  obtain rfl : k = m := by have : ¬ k < m := by simpa using h2
                           omega
  clear h2 hm1
  refine go ?_
  refine go_loop (X := Nat × (Option Addr × Nat) × (Option Addr × Nat)) (fun y => y.1 ≤ n) (fun y => n - y.1) (fun y => [(8, .int .i64 y.1), (5, .slice y.2.1.1 (lefT k x y.1).length y.2.1.2), (6, .slice y.2.2.1 (outT k x y.1).length y.2.2.2)])
    (fun y => [.cells b2 [.slice t.ao t.os.length t.co, .int .i64 t.data, .int .i64 t.lines, .slice t.ap t.ps.length t.cp], .own icell 1 3 (.slice y.2.1.1 (lefT k x y.1).length y.2.1.2) (lefT k x y.1), .own icell 1 3 (.slice y.2.2.1 (outT k x y.1).length y.2.2.2) (outT k x y.1)]) (0, (a1, c1), (none, 0)) [1, 2, 4] (Nat.zero_le _) (by simp [AgreeL, At, lefT, outT, anyT]) (by simp only [lefT, outT, anyT]; exact sb) (fun y hy => ?_)
  obtain ⟨i, ⟨a3, c3⟩, a4, c4⟩ := y
  dsimp only at hy ⊢
  obtain ⟨hl2, ho2⟩ := anyT_len (m := k) (x := x) i (by omega)
  have hll := hid hl2
  have hlo := hid ho2
  clear hl2 ho2
  refine go ?_
  refine GoL.cv (fun w' hw => items_ref t w' hn hd ho.2) ?_
  rw [hn2]
  by_cases hin : i < n
  rotate_left
  · obtain rfl : i = n := by omega
    refine go ?_
    exact end1 (fun w' hw => ⟨(a4, c4), rfl, hw.done sb⟩)
  refine go ?_
  refine go_if (fun h => ?_) (fun h => ?_)
  rotate_left
  · exact absurd h (by have := hll.out; omega)
  have hp : 0 < (lefT k x i).length := by simpa using h
  clear h
  have hpi : (0 : Int) < (lefT k x i).length := by omega
  have hpz : ¬ ((lefT k x i).length : Int) = 0 := by omega
  have hkk := anyK_lt (x := x) (i := i) hp
  refine go ?_
  refine go_join [(1, .slice ax x.length cx), (2, .pointer (some ⟨b2, 0, none⟩)), (4, .slice none 0 0), (8, .int .i64 i), (5, .slice a3 (lefT k x i).length c3), (6, .slice a4 (outT k x i).length c4), (9, .int .i64 (anyK x i (lefT k x i).length))]
    [.cells b2 [.slice t.ao t.os.length t.co, .int .i64 t.data, .int .i64 t.lines, .slice t.ap t.ps.length t.cp], .own icell 1 3 (.slice a3 (lefT k x i).length c3) (lefT k x i), .own icell 1 3 (.slice a4 (outT k x i).length c4) (outT k x i)] ?_ ?_
  · refine go_if (fun h0 => ?_) (fun h0 => ?_)
    rotate_left
    · have hK : anyK x i (lefT k x i).length = 0 := by unfold anyK; rw [if_pos (by simpa using h0)]
      rw [hK]
      refine go ?_
      exact xj_n (by simp [AgreeL, At]) sb
    · have hx0 : 0 < x.length := by simpa using h0
      clear h0
      have h01 : ¬ (x.length : Int) = 0 := by omega
      have e1 := hid (wrap_rem (u := (i : Int)) hx0 (by omega))
      obtain ⟨j, hj, hj2⟩ : ∃ j : Nat, ((i : Int) % (x.length : Int)).toNat = j ∧ j = i % x.length := ⟨_, rfl, by rw [← Int.natCast_emod]; rfl⟩
      have hjl : j < x.length := by rw [hj2]; exact Nat.mod_lt _ hx0
      have hxj := hxb _ (lx_mem hjl)
      have hne1 := hid (show ¬ x = [] from fun e => by rw [e] at hx0; exact absurd hx0 (by decide))
      have hne2 := hid (show ¬ lefT k x i = [] from fun e => by rw [e] at hp; exact absurd hp (by decide))
      have e2 := hid (wrap_rem (u := lx x j) hp (by omega))
      have hK : anyK x i (lefT k x i).length = (lx x j % ((lefT k x i).length : Int)).toNat := by unfold anyK; rw [if_neg (by omega), hj2]
      rw [hK]
      replace e1 := hid (e1.out.trans (congrArg _ hj))
      replace hj := hid hj
      replace hj2 := hid hj2
      replace hK := hid hK
      have e3 := hid (show (i : Int) % (x.length : Int) = (j : Int) by rw [hj2.out, Int.natCast_emod])
      have e4 := hid (show lx x j % ((lefT k x i).length : Int) = ((lx x j % ((lefT k x i).length : Int)).toNat : Int) from (Int.toNat_of_nonneg (Int.emod_nonneg _ hpz)).symm)
      refine go ?_
      refine GoL.q ⟨.int .i64 (j : Int), Ex.q (h := by intro g w R hR; go_simp; rw [if_neg hne1.out]; first | (rw [e1.out]; exact hR) | (rw [e3.out]; exact hR)), ?_⟩
      refine go ?_
      refine GoL.q ⟨.int .i64 ((lx x j % ((lefT k x i).length : Int)).toNat : Int), Ex.q (h := by intro g w R hR; go_simp; rw [if_neg hne2.out]; first | (rw [e2.out]; exact hR) | (rw [← e4.out]; exact hR)), ?_⟩
      refine go ?_
      exact xj_n (by simp [AgreeL, At]) sb
  generalize hq : anyK x i (lefT k x i).length = q at hkk ⊢
  have hq3 : q < 128 := by have := hll.out; omega
  refine go ?_
  refine GoL.q ⟨_, Ex.ix (l := lefT k x i) (f := icell) (m := 1) (i := q) (hi := Int.toNat_natCast q) (hc := fun w hw => hw.ownRd pk), ?_⟩
  refine GoL.q ⟨_, Ex.rl (l := lefT k x i) (f := icell) (m := 1) (i := q) (hc := fun w hw => hw.ownRd pk), ?_⟩
  refine go ?_
  refine GoL.sl (Ef.lit (f := icell) (m := 1) (e := 3) [lx (lefT k x i) q] (fun _ => rfl) rfl) (fun a5 c5 => ?_)
  refine go ?_
  refine GoL.sl (Ef.app (f := icell) (l := outT k x i) (l2 := [lx (lefT k x i) q]) (v := .slice a4 (outT k x i).length c4) elI (fun _ => rfl) icell_one (by have := hlo.out; simp only [List.length_cons, List.length_nil]; omega) pk (fun w hw => hw.ownRd (l := [lx (lefT k x i) q]) pk)) (fun a6 c6 => ?_)
  rw [outT_succ hq]
  have hlo2 := hid (anyT_len (m := k) (x := x) (i + 1) (by omega)).2
  refine go ?_
  refine D.e0 [] [] (fun X F => Ef.lit (f := icell) (m := 1) (e := 3) [] (fun _ => rfl) rfl) ?_
  refine go ?_
  refine D.e0 [] [0] (fun X F => Ef.appU (f := icell) (m := 1) (e := 3) (l := []) (l2 := (lefT k x i).take q) elI (fun _ => rfl) icell_one (by have := hll.out; simp only [List.length_nil, List.length_take]; omega) Pick.here (fun w hw => (hw.ownRd (l := lefT k x i) pk).take q)) ?_
  refine go ?_
  rw [show ((q : Int) + 1).toNat = q + 1 by omega]
  refine D.nil [(4, fun X => .sl icell 1 3 ((lefT k x i).take q) (X 4))] (fun X => GoL.slo fun a7 c7 hv => ?_) (hchk := by show chkDD _ _ 0 [4] = true; decide +kernel)
  refine GoL.fact (p := (lefT k x i).length ≤ c3) (fun w hw => (hw.own (l := lefT k x i) pk).cap) (fun hcap => ?_)
  replace hcap := hid hcap
  rw [show (0 + 1 + 1 + 1 + 1 : Nat) = 4 from rfl, hv]
  clear hv
  refine GoL.sl (Ef.app (f := icell) (l := (lefT k x i).take q) (l2 := (lefT k x i).drop (q + 1)) (v := .slice a7 ((lefT k x i).take q).length c7) elI (fun _ => rfl) icell_one (by have := hll.out; simp only [List.length_drop, List.length_take]; omega) pk (fun w hw => (hw.ownRd (l := lefT k x i) pk).drop (q + 1) hcap.out)) (fun a8 c8 => ?_)
  rw [show (lefT k x i).take q ++ (lefT k x i).drop (q + 1) = lefT k x (i + 1) from lefT_succ hq]
  refine go ?_
  exact go_again (i + 1, (a8, c8), (a6, c6)) hin (by simp only; omega) (by simp [AgreeL, At]) sb
end

section
set_option linter.all false
set_option pp.maxSteps 100000
set_option maxRecDepth 100000
set_option maxHeartbeats 4000000
open Go.RowKit

theorem rin_v (n lo hi : Int) (w : World) : Calls Tryz.prog 38 #[.int .i64 n, .int .i64 lo, .int .i64 hi] w (fun e w' => e = .returned (.bool (decide (¬ outP n lo hi))) ∧ Below w.heap.size w w') := by
  refine go_in Tryz.func38 rfl Tryz.ntmps38 [] [] (Mem.start _) ?_
  by_cases h1 : lo ≤ n
  · by_cases h2 : n ≤ hi
    · refine go ?_
      exact ev1 (by rw [decide_eq_true (show ¬ outP n lo hi by unfold outP; omega)])
    · refine go ?_
      exact ev1 (by rw [decide_eq_false (show ¬ ¬ outP n lo hi by unfold outP; omega)])
  · refine go ?_
    exact ev1 (by rw [decide_eq_false (show ¬ ¬ outP n lo hi by unfold outP; omega)])
theorem fromB_eq (op : Int) : fromB op = (decide (¬ outP op 1 5) || decide (op = 7)) := by
  unfold fromB outP; rw [← Bool.decide_or]; apply decide_eq_decide.2; omega
theorem toB_eq (op : Int) : toB op = (decide (¬ outP op 1 4) || decide (op = 6)) := by
  unfold toB outP; rw [← Bool.decide_or]; apply decide_eq_decide.2; omega
theorem rfrom_v (o : LOrd) (w : World) : Calls Tryz.prog 77 #[.agg #[.int .i64 o.op, .int .i64 o.fr, .int .i64 o.tt, .int .i64 o.nx]] w (fun e w' => e = .returned (.bool (fromB o.op)) ∧ Below w.heap.size w w') := by
  refine go_in Tryz.func77 rfl Tryz.ntmps77 [] [] (Mem.start _) ?_
  refine go ?_
  refine GoL.a (fun b1 => ?_)
  refine go ?_
  refine GoL.cv (fun w' hw => rin_v _ _ _ w') ?_
  by_cases h : outP o.op 1 5
  · rw [decide_eq_false (show ¬ ¬ outP o.op 1 5 from fun g => g h)]
    refine go ?_
    exact ev1 (by rw [fromB_eq, decide_eq_false (show ¬ ¬ outP o.op 1 5 from fun g => g h), Bool.false_or])
  · rw [decide_eq_true h]
    refine go ?_
    exact ev1 (by rw [fromB_eq, decide_eq_true h, Bool.true_or])
theorem rto_v (o : LOrd) (w : World) : Calls Tryz.prog 78 #[.agg #[.int .i64 o.op, .int .i64 o.fr, .int .i64 o.tt, .int .i64 o.nx]] w (fun e w' => e = .returned (.bool (toB o.op)) ∧ Below w.heap.size w w') := by
  refine go_in Tryz.func78 rfl Tryz.ntmps78 [] [] (Mem.start _) ?_
  refine go ?_
  refine GoL.a (fun b1 => ?_)
  refine go ?_
  refine GoL.cv (fun w' hw => rin_v _ _ _ w') ?_
  by_cases h : outP o.op 1 4
  · rw [decide_eq_false (show ¬ ¬ outP o.op 1 4 from fun g => g h)]
    refine go ?_
    exact ev1 (by rw [toB_eq, decide_eq_false (show ¬ ¬ outP o.op 1 4 from fun g => g h), Bool.false_or])
  · rw [decide_eq_true h]
    refine go ?_
    exact ev1 (by rw [toB_eq, decide_eq_true h, Bool.true_or])
theorem rleads_v (o : LOrd) (w : World) : Calls Tryz.prog 79 #[.agg #[.int .i64 o.op, .int .i64 o.fr, .int .i64 o.tt, .int .i64 o.nx]] w (fun e w' => e = .returned (.bool (decide (¬ o.op = 0))) ∧ Below w.heap.size w w') := by
  refine go_in Tryz.func79 rfl Tryz.ntmps79 [] [] (Mem.start _) ?_
  refine go ?_
  refine GoL.a (fun b1 => ?_)
  refine go ?_
  refine ev1 ?_
  by_cases h : o.op = 0 <;> simp [h]
theorem rorder_v (t : TD) (o : LOrd) (w : World) (hn : t.os.length ≤ 9223372036854775807) (hd : 0 ≤ t.data ∧ t.data ≤ 16) :
    Calls Tryz.prog 39 #[.agg #[.slice t.ao t.os.length t.co, .int .i64 t.data, .int .i64 t.lines, .slice t.ap t.ps.length t.cp], .agg #[.int .i64 o.op, .int .i64 o.fr, .int .i64 o.tt, .int .i64 o.nx]] w (fun e w' => e = .returned (.int .i64 (oddL t.os.length t.data o)) ∧ Below w.heap.size w w') := by
  refine go_in Tryz.func39 rfl Tryz.ntmps39 [] [] (Mem.start _) ?_
  refine go ?_
  refine GoL.a (fun b2 => ?_)
  refine go ?_
  refine GoL.a (fun b3 => ?_)
  refine go ?_
  refine GoL.cv (fun w' hw => rin_v _ _ _ w') ?_
  refine go ?_
  refine go_if (fun h => ?_) (fun h => ?_)
  · refine go ?_
    refine ev1 ?_
    rw [oddL, if_pos h]
  refine go ?_
  refine GoL.cv (fun w' hw => rfrom_v o w') ?_
  refine go ?_
  refine GoL.jk 8 [(24, .bool (decide (fromB o.op = true ∧ outP o.fr 0 (t.data - 1))))] [2, 3, 4, 5] ?_ ?_
  · refine GoL.sp (fun h1 => ?_) (fun h1 => ?_)
    · refine go ?_
      refine GoL.cv (fun w' hw => rin_v _ _ _ w') ?_
      refine go ?_
      exact GoL.jd (by simp [AgreeL, At, h1]) sb
    · refine go ?_
      exact GoL.jd (by simp [AgreeL, At, h1]) sb
  refine go ?_
  refine GoL.jk 12 [(37, .bool (decide ((fromB o.op = true ∧ outP o.fr 0 (t.data - 1)) ∨ (toB o.op = true ∧ outP o.tt 0 (t.data - 1)))))] [2, 3, 4, 5] ?_ ?_
  · refine GoL.sp (fun h1 => ?_) (fun h1 => ?_)
    · refine go ?_
      exact GoL.jd (by simp [AgreeL, At, h1]) sb
    · refine go ?_
      refine GoL.cv (fun w' hw => rto_v o w') ?_
      refine go ?_
      refine GoL.sp (fun h2 => ?_) (fun h2 => ?_)
      · refine go ?_
        refine GoL.cv (fun w' hw => rin_v _ _ _ w') ?_
        refine go ?_
        exact GoL.jd (by rcases h1 with h1 | h1 <;> simp [AgreeL, At, h1, h2]) sb
      · refine go ?_
        exact GoL.jd (by rcases h1 with h1 | h1 <;> simp [AgreeL, At, h1, h2]) sb
  refine go ?_
  refine GoL.jk 11 [(49, .bool (decide (((fromB o.op = true ∧ outP o.fr 0 (t.data - 1)) ∨ (toB o.op = true ∧ outP o.tt 0 (t.data - 1))) ∨ (o.op = 5 ∧ outP o.tt 0 ((t.os.length : Int) - 1)))))] [2, 3, 4, 5] ?_ ?_
  · refine GoL.sp (fun h1 => ?_) (fun h1 => ?_)
    · refine go ?_
      exact GoL.jd (by simp [AgreeL, At]; rcases h1 with h1 | h1 <;> simp [h1]) sb
    · refine go ?_
      refine GoL.sp (fun h2 => ?_) (fun h2 => ?_)
      · refine go ?_
        refine GoL.cv (fun w' hw => rin_v _ _ _ w') ?_
        refine go ?_
        exact GoL.jd (by rcases h1 with ⟨h3 | h3, h4 | h4⟩ <;> (try rw [h2] at h3) <;> (try rw [h2] at h4) <;> simp [AgreeL, At, h2, h3, h4]) sb
      · refine go ?_
        exact GoL.jd (by rcases h1 with ⟨h3 | h3, h4 | h4⟩ <;> (try rw [h2] at h3) <;> (try rw [h2] at h4) <;> simp [AgreeL, At, h2, h3, h4]) sb
  refine go ?_
  refine GoL.jk 10 [(60, .bool (decide ((((fromB o.op = true ∧ outP o.fr 0 (t.data - 1)) ∨ (toB o.op = true ∧ outP o.tt 0 (t.data - 1))) ∨ (o.op = 5 ∧ outP o.tt 0 ((t.os.length : Int) - 1))) ∨ (¬ o.op = 0 ∧ outP o.nx 0 ((t.os.length : Int) - 1)))))] [2, 3, 4, 5] ?_ ?_
  · refine GoL.sp (fun h1 => ?_) (fun h1 => ?_)
    · refine go ?_
      exact GoL.jd (by simp [AgreeL, At]; rcases h1 with (h1 | h1) | h1 <;> simp [h1]) sb
    · refine go ?_
      refine GoL.cv (fun w' hw => rleads_v o w') ?_
      refine go ?_
      refine GoL.sp (fun h2 => ?_) (fun h2 => ?_)
      · refine go ?_
        refine GoL.cv (fun w' hw => rin_v _ _ _ w') ?_
        refine go ?_
        exact GoL.jd (by rcases h1 with ⟨⟨h3 | h3, h4 | h4⟩, h5 | h5⟩ <;> (try rw [h2] at h3) <;> (try rw [h2] at h4) <;> (try rw [h2] at h5) <;> simp [AgreeL, At, h2, h3, h4, h5]) sb
      · refine go ?_
        exact GoL.jd (by rcases h1 with ⟨⟨h3 | h3, h4 | h4⟩, h5 | h5⟩ <;> (try rw [h2] at h3) <;> (try rw [h2] at h4) <;> (try rw [h2] at h5) <;> simp [AgreeL, At, h2, h3, h4, h5]) sb
  refine go ?_
  have hL : ((leadsL o).any (fun i => decide (outP i 0 ((t.os.length : Int) - 1))) = true) ↔ ((o.op = 5 ∧ outP o.tt 0 ((t.os.length : Int) - 1)) ∨ (¬ o.op = 0 ∧ outP o.nx 0 ((t.os.length : Int) - 1))) := by
    unfold leadsL
    by_cases e0 : o.op = 0
    · simp [e0]
    · by_cases e5 : o.op = 5
      · simp [e5, or_comm]
      · simp [e0, e5]
  refine go_if (fun h1 => ?_) (fun h1 => ?_)
  · refine go ?_
    refine ev1 ?_
    rw [oddL, if_neg h, if_pos (by rw [hL]; simpa only [or_assoc] using h1)]
  · refine go ?_
    refine ev1 ?_
    rw [oddL, if_neg h, if_neg (by rw [hL]; simpa only [or_assoc] using h1)]
end

section
set_option linter.all false
set_option pp.maxSteps 100000
set_option maxRecDepth 100000
set_option maxHeartbeats 4000000
open Go.RowKit

theorem leads_mem (o : LOrd) (x : Int) : x ∈ leadsL o ↔ (¬ o.op = 0 ∧ o.nx = x) ∨ (o.op = 5 ∧ o.tt = x) := by
  unfold leadsL
  by_cases e0 : o.op = 0
  · simp [e0]
  · by_cases e5 : o.op = 5
    · simp [e5, eq_comm]
    · simp [e0, e5, eq_comm]
theorem rafter_v (t : TD) (i : Nat) (x : Int) (w : World) (hn : t.Len) (hT : t.At w) (hi : i < t.os.length) :
    Calls Tryz.prog 89 #[.agg #[.slice t.ao t.os.length t.co, .int .i64 t.data, .int .i64 t.lines, .slice t.ap t.ps.length t.cp], .int .i64 i, .int .i64 x] w (fun e w' => e = .returned (.bool (decide (x ∈ leadsL (lx t.os i)))) ∧ Below w.heap.size w w') := by
  have hTo := hT.o
  refine go_in Tryz.func89 rfl Tryz.ntmps89 [] [] (Mem.start _) ?_
  refine go ?_
  refine GoL.a (fun b3 => ?_)
  refine go ?_
  refine GoL.a (fun b7 => ?_)
  refine go ?_
  refine GoL.cv (fun w' hw => rleads_v _ w') ?_
  by_cases h0 : (lx t.os i).op = 0
  · rw [decide_eq_false (show ¬ ¬ (lx t.os i).op = 0 from fun g => g h0)]
    have HR := hid (show decide (x ∈ leadsL (lx t.os i)) = false by rw [decide_eq_false_iff_not, leads_mem]; omega)
    have b5 : ((lx t.os i).op == 5) = false := by simp; omega
    clear h0
    refine go ?_
    exact ev1 (by rw [HR.out])
  · rw [decide_eq_true (show ¬ (lx t.os i).op = 0 from h0)]
    by_cases hx : (lx t.os i).nx = x
    · have HR := hid (show decide (x ∈ leadsL (lx t.os i)) = true by rw [decide_eq_true_iff, leads_mem]; exact .inl ⟨h0, hx⟩)
      have bx : ((lx t.os i).nx == x) = true := by simpa using hx
      clear h0 hx
      refine go ?_
      exact ev1 (by rw [HR.out])
    · have bx : ((lx t.os i).nx == x) = false := by simpa using hx
      by_cases h5 : (lx t.os i).op = 5
      · have b5 : ((lx t.os i).op == 5) = true := by simpa using h5
        have HR := hid (show decide (x ∈ leadsL (lx t.os i)) = ((lx t.os i).tt == x) by
          by_cases ht : (lx t.os i).tt = x
          · rw [decide_eq_true ((leads_mem _ _).2 (.inr ⟨h5, ht⟩))]; simpa using ht
          · rw [decide_eq_false (fun h => by rcases (leads_mem _ _).1 h with h | h; exact hx h.2; exact ht h.2)]; simpa using ht)
        clear h0 hx h5
        refine go ?_
        exact ev1 (by rw [HR.out])
      · have HR := hid (show decide (x ∈ leadsL (lx t.os i)) = false by rw [decide_eq_false_iff_not, leads_mem]; omega)
        have b5 : ((lx t.os i).op == 5) = false := by simpa using h5
        clear h0 hx h5
        refine go ?_
        exact ev1 (by rw [HR.out])
theorem rafter_z (t : TD) (i x : Int) (w : World) (hn : t.Len) (hT : t.At w) (hi : 0 ≤ i ∧ i < t.os.length) :
    Calls Tryz.prog 89 #[.agg #[.slice t.ao t.os.length t.co, .int .i64 t.data, .int .i64 t.lines, .slice t.ap t.ps.length t.cp], .int .i64 i, .int .i64 x] w (fun e w' => e = .returned (.bool (decide (x ∈ leadsL (lx t.os i.toNat)))) ∧ Below w.heap.size w w') := by
  have := rafter_v t i.toNat x w hn hT (by omega)
  rw [Int.toNat_of_nonneg hi.1] at this
  exact this
theorem rpath_v (t : TD) (p : PthR) (w : World) (hn : t.Len) (hT : t.At w) (ho : t.os.length ≤ 24) (hp : Rd icell 1 w p.a p.os) (hpl : p.os.length ≤ 9223372036854775807) :
    Calls Tryz.prog 40 #[.agg #[.slice t.ao t.os.length t.co, .int .i64 t.data, .int .i64 t.lines, .slice t.ap t.ps.length t.cp], .agg #[.slice p.a p.os.length p.c, .int .i64 p.cnt]] w (fun e w' => e = .returned (.int .i64 (wildL t.os p.os p.cnt)) ∧ Below w.heap.size w w') := by
  refine go_in Tryz.func40 rfl Tryz.ntmps40 [] [] (Mem.start _) ?_
  refine go ?_
  refine GoL.a (fun b2 => ?_)
  refine go ?_
  refine GoL.a (fun b3 => ?_)
  refine go ?_
  refine GoL.cv (fun w' hw => rin_v _ _ _ w') ?_
  refine go ?_
  refine go_if (fun h1 => ?_) (fun h1 => ?_)
  · refine go ?_
    exact ev1 (by rw [wildL, if_pos h1])
  refine go ?_
  refine GoL.cv (fun w' hw => rin_v _ _ _ w') ?_
  refine go ?_
  refine go_if (fun h2 => ?_) (fun h2 => ?_)
  · refine go ?_
    exact ev1 (by rw [wildL, if_neg h1, if_pos h2])
  have hpl2 : 1 ≤ p.os.length ∧ p.os.length ≤ 24 := by unfold outP at h1; omega
  refine go ?_
  refine go_loop (X := Nat) (fun y => y ≤ p.os.length ∧ ∀ j, j < y → ¬ outP (lx p.os j) 0 ((t.os.length : Int) - 1)) (fun y => p.os.length - y) (fun y => [(5, .int .i64 y)]) (fun y => [.cells b3 [.slice p.a p.os.length p.c, .int .i64 p.cnt], .cells b2 [.slice t.ao t.os.length t.co, .int .i64 t.data, .int .i64 t.lines, .slice t.ap t.ps.length t.cp]]) 0 [2, 3, 4] ⟨Nat.zero_le _, fun j hj => by omega⟩ (by simp [AgreeL, At]) sb (fun y hy => ?_)
  obtain ⟨hy, hall⟩ := hy
  refine go ?_
  refine go_if (fun h3 => ?_) (fun h3 => ?_)
  · have hk : y < p.os.length := by omega
    refine go ?_
    refine GoL.cv (fun w' hw => rin_v _ _ _ w') ?_
    refine go ?_
    refine go_if (fun h4 => ?_) (fun h4 => ?_)
    · refine go ?_
      refine ev1 ?_
      rw [wildL, if_neg h1, if_neg h2, if_pos (List.any_eq_true.2 ⟨_, lx_mem hk, by simpa using h4⟩)]
    refine go ?_
    exact go_again (y + 1) ⟨hk, fun j hj => by
      by_cases e : j = y
      · rw [e]; exact h4
      · exact hall j (by omega)⟩ (by omega) (by simp [AgreeL, At]) sb
  obtain rfl : y = p.os.length := by omega
  have ha : ¬ (p.os.any (fun i => decide (outP i 0 ((t.os.length : Int) - 1))) = true) := fun h => by
    obtain ⟨z, hz, h9⟩ := List.any_eq_true.1 h
    obtain ⟨j, hj, rfl⟩ := List.mem_iff_getElem.1 hz
    rw [← lx_eq hj] at h9
    exact hall j hj (by simpa using h9)
  clear h3
  refine go ?_
  refine go_loop (X := Nat) (fun y => y + 1 ≤ p.os.length ∧ ∀ j, j < y → lx p.os (j + 1) ∈ leadsL (lx t.os (lx p.os j).toNat)) (fun y => p.os.length - y) (fun y => [(6, .int .i64 ((y : Int) + 1))]) (fun y => [.cells b3 [.slice p.a p.os.length p.c, .int .i64 p.cnt], .cells b2 [.slice t.ao t.os.length t.co, .int .i64 t.data, .int .i64 t.lines, .slice t.ap t.ps.length t.cp]]) 0 [2, 3, 4] ⟨hpl2.1, fun j hj => by omega⟩ (by simp [AgreeL, At]) sb (fun y hy => ?_)
  obtain ⟨hy, hall2⟩ := hy
  refine go ?_
  refine go_if (fun h5 => ?_) (fun h5 => ?_)
  · have hk : y + 1 < p.os.length := by omega
    refine go ?_
    have hz := hall y (by omega)
    have hzz : 0 ≤ lx p.os y ∧ lx p.os y < (t.os.length : Int) := by unfold outP at hz; omega
    rw [show ((y : Int) + 1).toNat = y + 1 by omega]
    refine GoL.cv (fun w' hw => rafter_z t (lx p.os y) (lx p.os (y + 1)) w' hn (hT.old hw) hzz) ?_
    refine go ?_
    by_cases h6 : lx p.os (y + 1) ∈ leadsL (lx t.os (lx p.os y).toNat)
    · rw [decide_eq_true h6]
      refine go ?_
      exact go_again (y + 1) ⟨hk, fun j hj => by
        by_cases e : j = y
        · rw [e]; exact h6
        · exact hall2 j (by omega)⟩ (by omega) (by simp [AgreeL, At]) sb
    · rw [decide_eq_false h6]
      refine go ?_
      refine ev1 ?_
      rw [wildL, if_neg h1, if_neg h2, if_neg ha, if_pos (List.any_eq_true.2 ⟨y, List.mem_range.2 (by omega), by simpa using h6⟩)]
  have hy9 : y + 1 = p.os.length := by omega
  have hb : ¬ ((List.range (p.os.length - 1)).any (fun i => decide (¬ lx p.os (i + 1) ∈ leadsL (lx t.os (lx p.os i).toNat))) = true) := fun h => by
    obtain ⟨z, hz, h9⟩ := List.any_eq_true.1 h
    rw [List.mem_range] at hz
    have := hall2 z (by omega)
    simp at h9
    exact h9 this
  refine go ?_
  refine ev1 ?_
  rw [wildL, if_neg h1, if_neg h2, if_neg ha, if_neg hb]
theorem rcheck_v (t : TD) (p i e : Int) (w : World) (hT : t.At w) (hn : t.Len) (hr : chkL t = (p, i, e)) :
    Calls Tryz.prog 12 #[.agg #[.slice t.ao t.os.length t.co, .int .i64 t.data, .int .i64 t.lines, .slice t.ap t.ps.length t.cp]] w (fun e' w' => e' = .returned (.tuple #[.int .i64 p, .int .i64 i, .int .i64 e]) ∧ Below w.heap.size w w') := by
  have hto := hT.o
  have htp := hT.p
  have hn0 := hn.o
  have hm := hn.p
  refine go_in Tryz.func12 rfl Tryz.ntmps12 [] [] (Mem.start _) ?_
  refine go ?_
  refine GoL.a (fun b1 => ?_)
  refine go ?_
  refine GoL.cv (fun w' hw => rin_v _ _ _ w') ?_
  refine go ?_
  refine GoL.jk 5 [(19, .bool (decide (outP (t.os.length : Int) 1 24 ∨ 8 < (t.ps.length : Int))))] [1] ?_ ?_
  · refine GoL.sp (fun h1 => ?_) (fun h1 => ?_)
    · refine go ?_
      exact GoL.jd (by simp [AgreeL, At, h1]) sb
    · refine go ?_
      exact GoL.jd (by simp [AgreeL, At, h1]) sb
  refine go ?_
  refine go_if (fun h => ?_) (fun h => ?_)
  · refine go ?_
    refine ev3 ?_
    rw [chkL, if_pos h] at hr
    simp only [Prod.mk.injEq] at hr
    obtain ⟨rfl, rfl, rfl⟩ := hr
    exact ⟨rfl, rfl, rfl⟩
  refine go ?_
  refine GoL.cv (fun w' hw => rin_v _ _ _ w') ?_
  refine go ?_
  refine GoL.jk 5 [(29, .bool (decide (outP t.data 0 16 ∨ outP t.lines 1 8)))] [1] ?_ ?_
  · refine GoL.sp (fun h1 => ?_) (fun h1 => ?_)
    · refine go ?_
      exact GoL.jd (by simp [AgreeL, At, h1]) sb
    · refine go ?_
      refine GoL.cv (fun w' hw => rin_v _ _ _ w') ?_
      refine go ?_
      exact GoL.jd (by simp [AgreeL, At, h1]) sb
  refine go ?_
  refine go_if (fun h2 => ?_) (fun h2 => ?_)
  · refine go ?_
    refine ev3 ?_
    rw [chkL, if_neg h, if_pos h2] at hr
    simp only [Prod.mk.injEq] at hr
    obtain ⟨rfl, rfl, rfl⟩ := hr
    exact ⟨rfl, rfl, rfl⟩
  have hb : (t.os.length : Int) ≤ 24 ∧ 0 ≤ t.data ∧ t.data ≤ 16 ∧ 1 ≤ t.lines ∧ t.lines ≤ 8 ∧ 1 ≤ (t.os.length : Int) ∧ (t.ps.length : Int) ≤ 8 := by unfold outP at h h2; omega
  refine go ?_
  refine D.cv (fun F w' hw => items_ref t w' hn ⟨hb.2.1, hb.2.2.1⟩ (by omega)) ?_
  refine go ?_
  refine go_if (fun h3 => ?_) (fun h3 => ?_)
  · refine go ?_
    refine ev3 ?_
    rw [chkL, if_neg h, if_neg h2, if_pos h3] at hr
    simp only [Prod.mk.injEq] at hr
    obtain ⟨rfl, rfl, rfl⟩ := hr
    exact ⟨rfl, rfl, rfl⟩
  rw [chkL, if_neg h, if_neg h2, if_neg (by omega)] at hr
  refine go ?_
  refine go_loop (X := Nat) (fun k => k ≤ t.os.length ∧ ∀ j, j < k → oddL t.os.length t.data (lx t.os j) = 0) (fun k => t.os.length - k) (fun k => [(5, .int .i64 k)]) (fun _ => [.cells b1 [.slice t.ao t.os.length t.co, .int .i64 t.data, .int .i64 t.lines, .slice t.ap t.ps.length t.cp]]) 0 [1] ⟨Nat.zero_le _, fun j hj => by omega⟩ (by simp [AgreeL, At]) sb (fun k hk => ?_)
  refine go ?_
  refine go_if (fun h4 => ?_) (fun h4 => ?_)
  · have h5 : k < t.os.length := by omega
    refine go ?_
    refine GoL.cv (fun w' hw => rorder_v t (lx t.os k) w' hn0 ⟨hb.2.1, hb.2.2.1⟩) ?_
    refine go ?_
    refine go_if (fun h6 => ?_) (fun h6 => ?_)
    · refine go ?_
      refine ev3 ?_
      rw [firstBad_some h5 h6 hk.2] at hr
      simp only [Prod.mk.injEq] at hr
      obtain ⟨rfl, rfl, rfl⟩ := hr
      exact ⟨rfl, rfl, rfl⟩
    · refine go ?_
      refine go_again (k + 1) ⟨by omega, fun j hj => ?_⟩ (by omega) (by simp [AgreeL, At]) sb
      rcases Nat.lt_or_ge j k with h9 | h9
      · exact hk.2 j h9
      · obtain rfl : j = k := by omega
        simpa using h6
  have hk9 : k = t.os.length := by omega
  rw [firstBad_none (fun j hj => hk.2 j (by omega))] at hr
  simp only at hr
  clear h4
  refine go ?_
  refine go_loop (X := Nat) (fun k => k ≤ t.ps.length ∧ ∀ j, j < k → wildL t.os (lx t.ps j).os (lx t.ps j).cnt = 0) (fun k => t.ps.length - k) (fun k => [(7, .int .i64 k)]) (fun _ => [.cells b1 [.slice t.ao t.os.length t.co, .int .i64 t.data, .int .i64 t.lines, .slice t.ap t.ps.length t.cp]]) 0 [1] ⟨Nat.zero_le _, fun j hj => by omega⟩ (by simp [AgreeL, At]) sb (fun k hk => ?_)
  refine go ?_
  refine go_if (fun h4 => ?_) (fun h4 => ?_)
  · have h5 : k < t.ps.length := by omega
    refine go ?_
    refine GoL.cv (fun w' hw => rpath_v t (lx t.ps k) w' hn (hT.old hw) (by omega) (hw.old (hT.q _ (lx_mem h5))) (hn.q _ (lx_mem h5)).1) ?_
    refine go ?_
    refine go_if (fun h6 => ?_) (fun h6 => ?_)
    · refine go ?_
      refine ev3 ?_
      rw [firstBad_some h5 h6 hk.2] at hr
      simp only [Prod.mk.injEq] at hr
      obtain ⟨rfl, rfl, rfl⟩ := hr
      exact ⟨rfl, rfl, rfl⟩
    · refine go ?_
      refine go_again (k + 1) ⟨by omega, fun j hj => ?_⟩ (by omega) (by simp [AgreeL, At]) sb
      rcases Nat.lt_or_ge j k with h9 | h9
      · exact hk.2 j h9
      · obtain rfl : j = k := by omega
        simpa using h6
  have hk8 : k = t.ps.length := by omega
  rw [firstBad_none (fun j hj => hk.2 j (by omega))] at hr
  simp only [Prod.mk.injEq] at hr
  obtain ⟨rfl, rfl, rfl⟩ := hr
  refine go ?_
  exact ev3 ⟨rfl, rfl, rfl⟩
end


end Go.Proofs.YtigehmghcafblaaGreat
