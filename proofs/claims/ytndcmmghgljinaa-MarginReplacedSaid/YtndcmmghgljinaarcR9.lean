/- Replaced: what its walk needs. -/
import Derived.Test.YtndcmmghgljinaarcG7
import Derived.SizedLaws
set_option linter.all false
namespace Go.Proofs.Ytndcmmghgljinaa

open Go.RowKit


open Go.ChangeShapes Go.WideShapes Go.ChangeAt Go.RowKit Go.Deep
structure Kr where
  k : Kd
  a : Option Addr
  c : Nat
instance : Inhabited Kr := ⟨⟨⟨0, ⟨0, 0⟩, []⟩, none, 0⟩⟩
abbrev Kr.vs (x : Kr) : List Value := [.int .i64 x.k.new, .int .i64 x.k.wear.lo, .int .i64 x.k.wear.hi, .slice x.a x.k.steps.length x.c]
def Kr.vl (x : Kr) : Vl := ⟨x.k, x.a, x.c, none, 0, []⟩
structure RdKinds (w : World) (ar : Option Addr) (ks : List Kr) : Prop where
  rd : Rd Kr.vs 4 w ar ks
  inn : ∀ x ∈ ks, KdIn w x.k x.a
theorem KdIn.at {w w' : World} {k : Kd} {a : Option Addr} (h : KdIn w k a) (hb : Below w.heap.size w w') : KdIn w' k a := ⟨h.1, h.2.1, Rd.at h.2.2 hb⟩
theorem RdKinds.oldB {w w' : World} {ar : Option Addr} {ks : List Kr} (h : RdKinds w ar ks) (ho : OldB [] w w') : RdKinds w' ar ks :=
  ⟨Rd.oldB h.rd ho (by simp), fun x hx => ⟨(h.inn x hx).1, (h.inn x hx).2.1, Rd.oldB (h.inn x hx).2.2 ho (by simp)⟩⟩
theorem RdKr.ne {w : World} {a : Option Addr} {l : List Kr} (h : Rd Kr.vs 4 w a l) {k : Nat} (hk : k < l.length) {x : Kr} (hx : l[k] = x) :
    ∃ b off, a = some ⟨b, off, none⟩ ∧ b < w.heap.size ∧ w.cell? ⟨b, off + k * 4, none⟩ = some (.int .i64 x.k.new) ∧ w.cell? ⟨b, off + k * 4 + 1, none⟩ = some (.int .i64 x.k.wear.lo) ∧ w.cell? ⟨b, off + k * 4 + 2, none⟩ = some (.int .i64 x.k.wear.hi) ∧ w.cell? ⟨b, off + k * 4 + 3, none⟩ = some (.slice x.a x.k.steps.length x.c) := by
  subst hx; obtain ⟨b, off, ha, hb, hc⟩ := Rd.ne h hk; exact ⟨b, off, ha, hb, by simpa using hc 0 _ rfl, hc 1 _ rfl, hc 2 _ rfl, hc 3 _ rfl⟩
theorem RdKr.at4 {w : World} {b off : Nat} {l : List Kr} (h : Rd Kr.vs 4 w (some ⟨b, off, none⟩) l) {k : Nat} (hk : k < l.length) {x : Kr} (hx : l[k] = x) :
    w.cell? ⟨b, off + k * 4, none⟩ = some (.int .i64 x.k.new) ∧ w.cell? ⟨b, off + k * 4 + 1, none⟩ = some (.int .i64 x.k.wear.lo) ∧ w.cell? ⟨b, off + k * 4 + 2, none⟩ = some (.int .i64 x.k.wear.hi) ∧ w.cell? ⟨b, off + k * 4 + 3, none⟩ = some (.slice x.a x.k.steps.length x.c) := by
  obtain ⟨b', o', ha, _, h1⟩ := RdKr.ne h hk hx
  cases ha
  exact h1
section
variable {H : Type} {P : Program} {enc : TypeId × Value → H} {w : World} {spare : Nat → Bool} {n : Nat}

theorem open_rows2 {α : Type} [Inhabited α] {f : α → List Value} {m : Nat} {t e : TypeId} {ok : α → Prop} {fuel : Nat} {cs : List Value} {x : DataW H × List MemPlace} (ht : P.underlying t = some (.slice e)) (hC : P.cellsOf e = m)
    (hel : ∀ (n : Nat) (cs' : List Value) (z : DataW H × List MemPlace), cs'.length = m → DataW.trod enc P w 0 spare true n e cs' = some z → (∀ p ∈ z.2, p.block < w.heap.size) → ∃ y : α, cs' = f y ∧ ok y) (hm : 0 < m) (h : DataW.trod enc P w 0 spare true fuel t cs = some x) (hlt : ∀ p ∈ x.2, p.block < w.heap.size) :
    ∃ a c, ∃ l : List α, cs = [.slice a l.length c] ∧ Rd f m w a l ∧ l.length ≤ maxLen ∧ ∀ y ∈ l, ok y := by
  rcases open_slice ht h with ⟨rfl, _⟩ | ⟨a, len, cap, m', n, D, Pl, rfl, _, hl, hcap, hm', rfl, hi⟩
  · exact ⟨none, 0, [], rfl, .inl rfl, Nat.zero_le _, fun y hy => by cases hy⟩
  · rw [hC] at hi
    have hle : len ≤ m' := by rw [hm']; split <;> omega
    have hex : ∀ i, i < len → ∃ y : α, (∀ j v, (f y)[j]? = some v → w.cell? (a.add (i * m + j)) = some v) ∧ (f y).length = m ∧ ok y := by
      intro i hilt; obtain ⟨cs', hc, htr⟩ := hi i (by omega); obtain ⟨_, hlen, hcell⟩ := World.cells?_some hc; obtain ⟨y, rfl, hok⟩ := hel n cs' _ hlen htr (fun p hp => hlt p (List.mem_append_right _ (List.mem_flatMap.2 ⟨i, List.mem_range.2 (by omega), hp⟩))); refine ⟨y, fun j v hv => ?_, hlen, hok⟩
      have hj : j < m := by
        rcases Nat.lt_or_ge j m with h | h
        · exact h
        · rw [List.getElem?_eq_none (by omega)] at hv; cases hv
      rw [← Go.Deep.add_add, hcell j hj, hv]
    obtain ⟨g, hg⟩ := choose_lt hex; refine ⟨some a, cap, (List.range len).map g, by simp, ?_, by simp; omega, fun y hy => ?_⟩
    · by_cases h0 : len = 0
      · subst h0; exact .inl rfl
      · have h00 := hg 0 (by omega)
        obtain ⟨b, off, spot⟩ := a; have hz : ∃ v, (f (g 0))[0]? = some v := ⟨_, List.getElem?_eq_getElem (by rw [h00.2.1]; exact hm)⟩; obtain ⟨v0, hv0⟩ := hz; have hc0 := h00.1 0 v0 hv0
        have hspot : spot = none := by simpa [Addr.add] using World.cell?_spot hc0
        subst hspot; refine .inr ⟨b, off, rfl, ?_, fun i y hy j v hv => ?_⟩
        · have : MemPlace.cell b off ∈ MemPlace.row ⟨b, off, none⟩ (m' * P.cellsOf e) ++ (List.range m').flatMap Pl := by
            refine List.mem_append_left _ ?_; have hpos : 0 < m' * P.cellsOf e := Nat.mul_pos (by omega) (by omega)
            simp only [MemPlace.row, List.mem_map, List.mem_range]
            exact ⟨0, hpos, by simp⟩
          exact hlt _ this
        · have hil : i < len := by
            rcases Nat.lt_or_ge i len with h | h
            · exact h
            · rw [List.getElem?_eq_none (by simpa using h)] at hy; cases hy
          rw [List.getElem?_eq_getElem (by simpa using hil)] at hy
          obtain rfl : g i = y := by simpa using hy
          have := (hg i hil).1 j v hv; rw [Go.WideShapes.add_plain] at this; rw [Nat.add_assoc]; exact this
    · obtain ⟨i, hi', rfl⟩ := List.mem_map.1 hy
      exact (hg i (by simpa using hi')).2.2

theorem slice_sized {P : Program} {t e : TypeId} {fuel : Nat} {a : Option Addr} {len cap : Nat} {x : DataW H × List MemPlace} (ht : P.underlying t = some (.slice e)) (h : DataW.trod enc P w 0 spare true fuel t [.slice a len cap] = some x)
    (hw : ∀ n ∈ x.1.weights P t, n ≤ reachBytes) : len * P.bytesOf e ≤ reachBytes := by
  rcases open_slice ht h with ⟨h1, _⟩ | ⟨a', len', cap', m', n', D, Pl, h1, _, _, _, _, rfl, _⟩
  · cases h1; simp
  · cases h1
    have := hw ((((List.range len).map D).length + ((List.range (m' - len)).map fun j => D (len + j)).length) * P.bytesOf e) (by simp [DataW.weights, ht])
    simp only [List.length_map, List.length_range] at this
    exact Nat.le_trans (Nat.mul_le_mul_right _ (Nat.le_add_right _ _)) this
set_option maxRecDepth 100000 in
theorem open_kinds {base : Nat} {v : Value} {d : DataW H} {p : List MemPlace} (hv : Value.okWide Try.prog w .any base 87 v) (h : DataW.Trod enc Try.prog w 0 spare true 87 v d p) (hlt : ∀ x ∈ p, x.block < w.heap.size) :
    ∃ (l : List Kr) (a : Option Addr) (c : Nat), v = .slice a l.length c ∧ RdKinds w a l ∧ l.length ≤ 9223372036854775807 := by
  obtain ⟨a0, len, cap, rfl⟩ := okWide_slice Try.underlying87 hv; obtain ⟨fuel, hf0⟩ := h; obtain ⟨a, c, l, hj, rj, nj, bj⟩ := open_rows2 (f := Kr.vs) (m := 4) (ok := fun x : Kr => KdIn w x.k x.a) Try.underlying87 (by kernel_rfl) (fun n cs' z _ hz hlt' => by obtain ⟨k, a, c, h1, h2⟩ := open_kd hz hlt'; exact ⟨⟨k, a, c⟩, h1, h2⟩) (by decide) hf0 (fun q hq => hlt q hq)
  simp [Value.cells] at hj
  obtain ⟨rfl, rfl, rfl⟩ := hj; unfold maxLen at nj; exact ⟨l, a0, cap, rfl, ⟨rj, bj⟩, by omega⟩
theorem kinds_sized {d : DataW H} {p : List MemPlace} {a : Option Addr} {len c : Nat} (h : DataW.Trod enc Try.prog w 0 spare true 87 (.slice a len c) d p) (hw : ∀ n ∈ d.weights Try.prog 87, n ≤ reachBytes) : len * 48 ≤ 140737488351232 := by
  obtain ⟨fuel, hf0⟩ := h; have := slice_sized Try.underlying87 hf0 hw; rw [show Try.prog.bytesOf 26 = 48 by kernel_rfl] at this; exact this
end
def rackU (ks : List Kr) (i : Nat) : List Vl := (ks.take i).map Kr.vl
theorem rackU_succ {ks : List Kr} {i : Nat} (hi : i < ks.length) {x : Kr} (hx : ks[i] = x) : rackU ks (i + 1) = rackU ks i ++ [Kr.vl x] := by subst hx; unfold rackU; rw [List.take_succ_eq_append_getElem hi, List.map_append]; rfl
theorem rackU_len {ks : List Kr} {i : Nat} (hi : i ≤ ks.length) : (rackU ks i).length = i := by unfold rackU; rw [List.length_map, List.length_take]; omega
theorem rackU_all {ks : List Kr} : rackU ks ks.length = ks.map Kr.vl := by unfold rackU; rw [List.take_length]
theorem rack_of {w : World} {ar : Option Addr} {ks : List Kr} (h1 : Rd Vl.vs 5 w ar (ks.map Kr.vl)) (h2 : ∀ x ∈ ks, KdIn w x.k x.a) : RdRack w ar (ks.map Kr.vl) :=
  ⟨h1, fun x hx => by obtain ⟨y, hy, rfl⟩ := List.mem_map.1 hx; exact (h2 y hy).2.2, fun x hx => by obtain ⟨y, hy, rfl⟩ := List.mem_map.1 hx; exact .inl rfl, fun x hx => by obtain ⟨y, hy, rfl⟩ := List.mem_map.1 hx; exact ⟨(h2 y hy).1, (h2 y hy).2.1, Nat.zero_le _⟩⟩
theorem vl_one (x : Vl) : ∀ u ∈ x.vs, u.oneCell' = true := by intro u hu; simp [Vl.vs] at hu; rcases hu with h | h | h | h | h <;> subst h <;> rfl
theorem info_vl : (Try.prog.info? 92).map (fun i => (i.zero, i.size, i.bytes)) = some (some (.agg #[.int .i64 0, .int .i64 0, .int .i64 0, .slice none 0 0, .slice none 0 0]), 5, 72) := by kernel_rfl
theorem RdSls.at1 {w : World} {b off : Nat} {l : List Sl} (h : RdSls w (some ⟨b, off, none⟩) l) {k : Nat} (hk : k < l.length) {y : Sl} (hy : l[k] = y) : w.cell? ⟨b, off + k, none⟩ = some (.slice y.a y.l.length y.c) := by
  subst hy; obtain ⟨b', o', ha, _, h1⟩ := RdSls.ne h hk
  cases ha
  exact h1
/-- whether a number is among the first ones -/
def hasU (U : List Int) (x : Int) : Nat → Bool
  | 0 => false
  | n + 1 => hasU U x n || decide (U.getD n 0 = x)
theorem hasU_iff {U : List Int} {x : Int} : ∀ {n : Nat}, hasU U x n = true ↔ ∃ i, i < n ∧ U.getD i 0 = x
  | 0 => by simp [hasU]
  | n + 1 => by
    unfold hasU; rw [Bool.or_eq_true, hasU_iff (n := n), decide_eq_true_eq]
    constructor
    · rintro (⟨i, h1, h2⟩ | h)
      · exact ⟨i, by omega, h2⟩
      · exact ⟨n, by omega, h⟩
    · rintro ⟨i, h1, h2⟩
      rcases Nat.lt_or_ge i n with h | h
      · exact .inl ⟨i, h, h2⟩
      · have : i = n := by omega
        subst this; exact .inr h2
theorem hasU_all {U : List Int} {x : Int} : hasU U x U.length = true ↔ x ∈ U := by
  rw [hasU_iff, List.mem_iff_getElem]
  constructor
  · rintro ⟨i, h1, h2⟩; exact ⟨i, h1, by rw [← getD_get h1 0]; exact h2⟩
  · rintro ⟨i, h1, h2⟩; exact ⟨i, h1, by rw [getD_get h1]; exact h2⟩
def whU (P : List (List Int)) (i : Int) (n : Nat) : List Bool := (List.range n).map fun j => hasU (P.getD j []) i (P.getD j []).length
theorem whU_len {P : List (List Int)} {i : Int} {n : Nat} : (whU P i n).length = n := by simp [whU]
theorem whU_succ {P : List (List Int)} {i : Int} {n : Nat} : whU P i (n + 1) = whU P i n ++ [hasU (P.getD n []) i (P.getD n []).length] := by simp [whU, List.range_succ]
theorem whU_get {P : List (List Int)} {i : Int} {n j : Nat} (hj : j < n) : (whU P i n).getD j false = true ↔ i ∈ P.getD j [] := by
  unfold whU; rw [List.getD_eq_getElem?_getD, List.getElem?_map, List.getElem?_range hj]; exact hasU_all
theorem rep_bad {rack : List Vl} {l : List Int} {f u : Int} (h : ¬ (repRes rack l f u).2 = 0) : (repRes rack l f u).1 = [] := by
  unfold repRes at h ⊢
  split
  · rfl
  · rename_i h1
    rw [if_neg h1] at h
    split
    · rfl
    · rename_i o ho
      rw [ho] at h; exact absurd rfl h
theorem repl_kind {ks : List Kr} {ns : List Int} {f u : Nat} {R : List (List Int) × Int} (hR : repRes (ks.map Kr.vl) ns f u = R) (h0 : R.2 = 0) (hf : f ≤ 100000) (hfu : f ≤ u) {i : Nat} (hi : i < ks.length) {x : Kr} (hx : ks[i] = x) (lw : List Int) :
    kdErr x.k = 0 ∧ failB x.k lw ns (whU R.1 (i : Int) ns.length) f u (strS x.k lw f) = false := by
  subst hx; have h1 := repl_ok (rack := ks.map Kr.vl) (l := ns) (f := (f : Int)) (u := (u : Int)) (by rw [hR]; exact h0); rw [hR] at h1; obtain ⟨_, _, h3, _, _, h4⟩ := h1; obtain ⟨ha, p, hp, hm⟩ := h4 i (by simpa using hi); rw [List.getElem_map] at ha hp; have hE : kdErr ks[i].k = 0 := (asked_ok (show (asked ks[i].k [] f).2 = 0 from ha)).1; refine ⟨hE, repl_safe hE h3 hf hfu hp (fun n hn => ?_)⟩; rw [whU_get hn, hm n]
theorem row_sum {n : Nat} : ∀ {P : List (List Int)}, (P.getD n []).length ≤ sumLen P := by
  induction n with
  | zero => intro P; cases P <;> simp [sumLen]
  | succ n ih =>
    intro P
    cases P with
    | nil => simp [sumLen]
    | cons a P => have := ih (P := P); simp only [List.getD_cons_succ]; simp only [sumLen, List.map_cons, List.sum_cons] at this ⊢; omega
theorem repGo_sum {l : List Int} {f u : Int} (hl : l.length ≤ 20) : ∀ {t : List Vl} {i : Nat} {o o' : List (List Int)}, repGo l f u t i o = some o' → o.length = l.length → sumLen o' ≤ sumLen o + 20 * t.length
  | [], i, o, o', h, _ => by cases h; omega
  | x :: t, i, o, o', h, ho => by
    have h' : (match planR x.k l (vCan f x) f u with | none => none | some p => repGo l f u t (i + 1) (addPlan o i p)) = some o' := h
    cases hp : planR x.k l (vCan f x) f u with
    | none => rw [hp] at h'; cases h'
    | some p =>
      rw [hp] at h'; have hin := plan_in _ hp; have h1 := repGo_sum hl (t := t) h' (by rw [add_len]; exact ho); rw [sum_add (fun y hy => by have := hin y hy; omega)] at h1; have h2 := planR_len hp
      simp only [List.length_cons]
      omega
theorem repl_row {ks : List Kr} {ns : List Int} {f u : Nat} {R : List (List Int) × Int} (hR : repRes (ks.map Kr.vl) ns f u = R) (h0 : R.2 = 0) (n : Nat) : (R.1.getD n []).length ≤ 240 := by
  have h1 := repl_ok (rack := ks.map Kr.vl) (l := ns) (f := (f : Int)) (u := (u : Int)) (by rw [hR]; exact h0)
  have hz : repErr (ks.map Kr.vl) ns f u = 0 := by
    by_cases e : repErr (ks.map Kr.vl) ns f u = 0
    · exact e
    · exfalso
      have h2 : (repRes (ks.map Kr.vl) ns f u).2 = repErr (ks.map Kr.vl) ns f u := by unfold repRes; rw [if_pos e]
      rw [hR] at h2; exact e (h2.symm.trans h0)
  cases ho : repOut (ks.map Kr.vl) ns f u with
  | none =>
    have : repRes (ks.map Kr.vl) ns f u = ([], 9) := by unfold repRes; rw [if_neg (by rw [hz]; decide), ho]
    rw [← hR, this]; simp
  | some o =>
    have hr : repRes (ks.map Kr.vl) ns f u = (o, 0) := by unfold repRes; rw [if_neg (by rw [hz]; decide), ho]
    rw [← hR, hr]; have h3 := repGo_sum h1.1 (show repGo ns f u (ks.map Kr.vl) 0 (List.replicate ns.length []) = some o from ho) (by rw [List.length_replicate])
    have h4 : sumLen (List.replicate ns.length ([] : List Int)) = 0 := by simp [sumLen]
    have h5 := row_sum (n := n) (P := o); have h6 := h1.2.1
    show (o.getD n []).length ≤ 240
    omega
theorem repl_len {ks : List Kr} {ns : List Int} {f u : Nat} {R : List (List Int) × Int} (hR : repRes (ks.map Kr.vl) ns f u = R) (h0 : R.2 = 0) : R.1.length = ns.length ∧ ns.length ≤ 20 ∧ ks.length ≤ 12 := by
  have h1 := repl_ok (rack := ks.map Kr.vl) (l := ns) (f := (f : Int)) (u := (u : Int)) (by rw [hR]; exact h0); rw [hR] at h1; exact ⟨h1.2.2.2.2.1, h1.1, by simpa using h1.2.1⟩
theorem failed_ff (k : Kd) (a : Option Addr) (c : Nat) (as_ : Option Addr) (cs_ : Nat) (ls : List Int) (an : Option Addr) (cn : Nat) (ns : List Int) (ab : Option Addr) (cb : Nat) (ws : List Bool) (f u : Nat) (aw : Option Addr) (cw : Nat) (lw : List Int) (z0 : Int) (w : World) (hB : failB k lw ns ws f u z0 = false) (hK : KOk k) (hR : RdSteps w a k.steps) (hRs : RdInts w as_ ls) (hf : f < ls.length) (hs0 : ls.getD f 0 = z0) (hsb : 0 ≤ z0 ∧ z0 ≤ 1000000) (hRn : RdInts w an ns) (hln : ns.length ≤ 1000) (hRb : RdB w ab ws) (hnw : ws.length = ns.length) (hfu : f ≤ u) (hu : u ≤ 99998) (hRw : RdU w aw lw) (hlw : lw.length ≤ 9223372036854775807) (hU : U16 lw) :
    Calls Try.prog 46 #[.agg #[.int .i64 k.new, .int .i64 k.wear.lo, .int .i64 k.wear.hi, .slice a k.steps.length c], .slice as_ ls.length cs_, .slice an ns.length cn, .slice ab ws.length cb, .int .i64 (f : Int), .int .i64 (u : Int), .slice aw lw.length cw] w (fun e w' => e = .returned (.bool false) ∧ Below w.heap.size w w') :=
  (failed_any k a c as_ cs_ ls an cn ns ab cb ws f u aw cw lw z0 w hK hR hRs hf hs0 hsb hRn hln hRb hnw hfu hu hRw hlw hU).mono fun e w' h => ⟨by rw [h.1, hB], h.2⟩
theorem lived_any2 (k : Kd) (a : Option Addr) (c : Nat) (ah av : Option Addr) (nh ch nv cv : Nat) (x : Int) (aw : Option Addr) (cw : Nat) (lw : List Int) (u : Nat) (w : World) (hK : KOk k) (hRw : RdU w aw lw) (hlw : lw.length ≤ 9223372036854775807) (hU : U16 lw) (hu : u ≤ 99998) :
    Calls Try.prog 41 #[.agg #[.int .i64 k.new, .int .i64 k.wear.lo, .int .i64 k.wear.hi, .slice a k.steps.length c], .agg #[.slice ah nh ch, .slice av nv cv, .int .u16 x, .slice aw lw.length cw], .int .i64 (u : Int)] w (fun e w' => ∃ v, e = .returned v ∧ Own int1 1 3 w.heap.size w' v (LL k lw (u + 1)) ∧ Below w.heap.size w w') :=
  (lived_own k a c ah av nh ch nv cv x aw cw lw u w hK hRw hlw hU hu).mono fun e w' ⟨b, c, h1, h2, h3⟩ => ⟨_, h1, h2, h3⟩

end Go.Proofs.Ytndcmmghgljinaa
