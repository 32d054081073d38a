/- A list of rows that the call itself has made. -/
import Derived.Deep.RegionHeld3
import Derived.Deep.AppendLies
import Derived.Deep.RegionLaw
import Derived.Test.YtbjgebbfachgfaacW8
set_option linter.unusedVariables false
set_option linter.unusedSimpArgs false
set_option linter.unusedSectionVars false
set_option linter.all false
namespace Go.Proofs.Ytbjgebbfachgfaa
open Go.RowKit

/-- the slice value v, made by the call itself in blocks from base on, reads as l -/
def Own {α : Type} (f : α → List Value) (m : Nat) (T : TypeId) (base : Nat) (w : World) (v : Value) (l : List α) : Prop := w.ownsRow base T m v l.length (l.flatMap f)

theorem flat_get {α : Type} (f : α → List Value) (m : Nat) (hf : ∀ x, (f x).length = m) : ∀ (l : List α) (i : Nat) (x : α), l[i]? = some x → ∀ j v, (f x)[j]? = some v → (l.flatMap f)[i * m + j]? = some v
  | [], i, x, h, _, _, _ => by simp at h
  | y :: l, 0, x, h, j, v, hv => by
    simp at h
    subst h
    have hj : j < (f y).length := by
      rcases Nat.lt_or_ge j (f y).length with h | h
      · exact h
      · rw [List.getElem?_eq_none h] at hv; cases hv
    simp only [List.flatMap_cons, Nat.zero_mul, Nat.zero_add]
    rw [List.getElem?_append_left hj]; exact hv
  | y :: l, i + 1, x, h, j, v, hv => by
    simp at h
    simp only [List.flatMap_cons]
    rw [List.getElem?_append_right (by rw [hf]; have : (i + 1) * m = i * m + m := Nat.succ_mul i m; omega)]
    have : (i + 1) * m + j - (f y).length = i * m + j := by rw [hf, Nat.succ_mul]; omega
    rw [this]
    exact flat_get f m hf l i x h j v hv

theorem Own.nil {α : Type} (f : α → List Value) (m : Nat) (T : TypeId) (base : Nat) (w : World) : Own f m T base w (.slice none 0 0) [] := World.ownsRow_nil w base T m

/-- what it is: nil, or a block of its own -/
theorem Own.form {α : Type} {f : α → List Value} {m : Nat} {T : TypeId} {base : Nat} {w : World} {v : Value} {l : List α} (h : Own f m T base w v l) :
    (v = .slice none 0 0 ∧ l = []) ∨ ∃ g cap, v = .slice (some ⟨g, 0, none⟩) l.length cap ∧ base ≤ g ∧ g < w.heap.size := by
  rcases h.2 with ⟨hv, hn⟩ | ⟨g, cap, cur, hv, hb, hg, _⟩
  · exact .inl ⟨hv, List.length_eq_zero_iff.1 hn⟩
  · exact .inr ⟨g, cap, hv, hb, (Array.getElem?_eq_some_iff.1 hg).1⟩

theorem Own.formN {α : Type} {f : α → List Value} {m : Nat} {T : TypeId} {base : Nat} {w : World} {v : Value} {l : List α} (h : Own f m T base w v l) {n : Nat} (hn : l.length = n) :
    (v = .slice none 0 0 ∧ l = [] ∧ n = 0) ∨ ∃ g cap, v = .slice (some ⟨g, 0, none⟩) n cap ∧ base ≤ g ∧ g < w.heap.size ∧ w.ownsRow base T m (.slice (some ⟨g, 0, none⟩) n cap) n (l.flatMap f) := by
  subst hn
  rcases h.form with ⟨hv, hl⟩ | ⟨g, cap, hv, hb, hg⟩
  · exact .inl ⟨hv, hl, by simp [hl]⟩
  · subst hv
    exact .inr ⟨g, cap, rfl, hb, hg, h⟩
theorem Own.of {α : Type} {f : α → List Value} {m : Nat} {T : TypeId} {base : Nat} {w : World} {v : Value} {l : List α} {n : Nat} (hn : l.length = n) {xs : List Value} (hx : xs = l.flatMap f) (h : w.ownsRow base T m v n xs) : Own f m T base w v l := by
  subst hn hx; exact h

theorem Own.rd {α : Type} {f : α → List Value} {m : Nat} (hf : ∀ x, (f x).length = m) {T : TypeId} {base : Nat} {w : World} {v : Value} {l : List α} (h : Own f m T base w v l) :
    ∃ a cap, v = .slice a l.length cap ∧ Rd f m w a l ∧ (∀ b o s, a = some ⟨b, o, s⟩ → base ≤ b) := by
  rcases h.form with ⟨hv, rfl⟩ | ⟨g, cap, rfl, hb, hg⟩
  · exact ⟨none, 0, hv, .inl rfl, fun _ _ _ h => by cases h⟩
  · refine ⟨_, cap, rfl, .inr ⟨g, 0, rfl, hg, ?_⟩, fun _ _ _ h => by cases h; exact hb⟩
    intro i x hi j u hj
    have hfl := flat_get f m hf l i x hi j u hj
    have := World.ownsRow.cellAt h (i * m + j) (by
      rcases Nat.lt_or_ge (i * m + j) (l.flatMap f).length with hlt | hge
      · rw [h.1] at hlt; exact hlt
      · rw [List.getElem?_eq_none hge] at hfl; cases hfl)
    rw [Nat.zero_add, this]; exact hfl

/-- kept while its own block is -/
theorem Own.kept {α : Type} {f : α → List Value} {m : Nat} {T : TypeId} {base : Nat} {w w' : World} {v : Value} {l : List α} (h : Own f m T base w v l) (hk : ∀ g, v.ownBlock = some g → w'.heap[g]? = w.heap[g]?) : Own f m T base w' v l := by
  refine ⟨h.1, ?_⟩
  rcases h.2 with hn | ⟨g, cap, cur, rfl, hb, hg, rest⟩
  · exact .inl hn
  · exact .inr ⟨g, cap, cur, rfl, hb, (hk g rfl).trans hg, rest⟩
theorem Own.at {α : Type} {f : α → List Value} {m : Nat} {T : TypeId} {base : Nat} {w w' : World} {v : Value} {l : List α} (h : Own f m T base w v l) (hb : Below w.heap.size w w') : Own f m T base w' v l :=
  h.kept fun g hg => hb.block g (World.ownsRow.lt h g hg).2
theorem Own.setCell {α : Type} {f : α → List Value} {m : Nat} {T : TypeId} {base : Nat} {w : World} {v : Value} {l : List α} (h : Own f m T base w v l) {a : Addr} (ha : a.block < base) (u : Value) : Own f m T base (w.setCell a u) v l :=
  h.kept fun g hg => by
    have := (World.ownsRow.lt h g hg).1
    exact Below.heap_setCell w a u g (by omega)
theorem Own.snoc {α : Type} {f : α → List Value} {m : Nat} {T : TypeId} {base : Nat} {w : World} {v : Value} {l : List α} {x : α} (h : w.ownsRow base T m v (l.length + 1) (l.flatMap f ++ f x)) : Own f m T base w v (l ++ [x]) := by
  unfold Own; simpa using h

theorem news_at (w : World) (n : Nat) (hn : w.heap.size = n) (cs : Array Value) (T : TypeId) : ∀ j u, cs.toList[j]? = some u → (w.alloc (.cells cs T)).cell? ((⟨n, 0, none⟩ : Addr).add j) = some u := by
  subst hn; exact World.news_of_block (heap_alloc_new w _)

/-- one element, just laid in a block of its own, appended to a list of the call's own: no region that draws -/
theorem append1 {P : Program} {ops : Array Oper} {rest : List Oper} {o : Oper} {a : Act} {Q : Exit → Act → World → Prop} {w0 : World} {cs : Array Value} (N : Nat) (hN : w0.heap.size = N) (hgd : o.guard = none) (s x : Operand) (t : TypeId)
    (ho : o.op = .call { callee := .builtin .append, args := #[s, x], argTypes := #[t, t] })
    (base : Nat) (e : TypeId) (i : TypeInfo) (z : Value) (size bytes : Nat) (ht : P.underlying t = some (.slice e)) (hi : P.info? e = some i) (hz : i.zero = some z)
    (hsize : i.size = size) (hby : i.bytes = bytes) (hzs : z.cells.size = size) (hsz : 0 < size)
    (v : Value) (n : Nat) (xs : List Value) (hs : a.eval s = v) (hown : w0.ownsRow base e size v n xs)
    (c : Nat) (hx : a.eval x = .slice (some ⟨N, 0, none⟩) 1 c) (hl : cs.size = size) (h1 : ∀ u ∈ cs.toList, u.oneCell' = true)
    (h63 : n + 1 ≤ maxLen) (hbytes : (n + 1) * bytes ≤ 140737488355328) (hbase : base ≤ N + 1)
    (h : ∀ g cap w', w'.ownsRow base e size (.slice (some ⟨g, 0, none⟩) (n + 1) cap) (n + 1) (xs ++ cs.toList) → (w0.alloc (.cells cs e)).grownBy w' v.ownBlock → base ≤ g → N < w'.heap.size →
      wpList P ops Q rest (a.put o.dst (.slice (some ⟨g, 0, none⟩) (n + 1) cap)) w') : wpList P ops Q (o :: rest) a (w0.alloc (.cells cs e)) := by
  refine wpList_append_own _ hgd s x t ho base e i z size bytes ht hi hz hsize hby hzs hsz v n xs hs (hown.alloc _) ⟨N, 0, none⟩ 1 c cs.toList hx (by simpa using hl) (news_at _ _ hN _ _) h1 h63 hbytes (by simp; omega) ?_
  intro v' w' ho' hg _
  have hsz' : N < w'.heap.size := by have := hg.size; simp at this; omega
  rcases ho'.2 with ⟨_, h0⟩ | ⟨g, cap, cur, rfl, hb, _⟩
  · omega
  · exact h g cap w' ho' hg hb hsz'

/-- the same, inside a region that draws its order -/
theorem stepAppend1 {P : Program} {ops : Array Oper} {o : Oper} {a : Act} {K : Act → World → Prop} {Q : Exit → Act → World → Prop} {E : Prop} {w0 : World} {cs : Array Value} (N : Nat) (hN : w0.heap.size = N) (hgd : o.guard = none) (s x : Operand) (t : TypeId)
    (ho : o.op = .call { callee := .builtin .append, args := #[s, x], argTypes := #[t, t] })
    (base : Nat) (e : TypeId) (i : TypeInfo) (z : Value) (size bytes : Nat) (ht : P.underlying t = some (.slice e)) (hi : P.info? e = some i) (hz : i.zero = some z)
    (hsize : i.size = size) (hby : i.bytes = bytes) (hzs : z.cells.size = size) (hsz : 0 < size)
    (v : Value) (n : Nat) (xs : List Value) (hs : a.eval s = v) (hown : w0.ownsRow base e size v n xs)
    (c : Nat) (hx : a.eval x = .slice (some ⟨N, 0, none⟩) 1 c) (hl : cs.size = size) (h1 : ∀ u ∈ cs.toList, u.oneCell' = true)
    (h63 : n + 1 ≤ maxLen) (hbytes : (n + 1) * bytes ≤ 140737488355328) (hbase : base ≤ N + 1)
    (h : ∀ g cap w', w'.ownsRow base e size (.slice (some ⟨g, 0, none⟩) (n + 1) cap) (n + 1) (xs ++ cs.toList) → (w0.alloc (.cells cs e)).drew.grownBy w' v.ownBlock → base ≤ g → N < w'.heap.size →
      K (a.put o.dst (.slice (some ⟨g, 0, none⟩) (n + 1) cap)) w') :
    if Region.wanted o (yielded ops a.tmps) = true then Oper.wp P o a (w0.alloc (.cells cs e)).drew K Q else E := by
  refine step_append_lies _ hgd s x t ho base e i z size bytes ht hi hz hsize hby hzs hsz v n xs hs (hown.alloc _).drew ⟨N, 0, none⟩ 1 c cs.toList hx (by simpa using hl) (news_at _ _ hN _ _) h1 (by decide) h63 hbytes (by simp; omega) (N + 1) (by simp [hN]) ?_
  intro g cap w' ho' hg hat _
  have hsz' : N < w'.heap.size := by have := hg.size; simp at this; omega
  have hb : base ≤ g := by
    rcases hat with h | h
    · exact (World.ownsRow.lt hown _ h).1
    · omega
  exact h g cap w' ho' hg hb hsz'

theorem info_st : (Try.prog.info? 70).map (fun i => (i.zero, i.size, i.bytes)) = some (some (.agg #[.int .i64 0, .int .i64 0, .int .i64 0, .int .i64 0, .int .i64 0]), 5, 40) := by kernel_rfl
theorem info_spell : (Try.prog.info? 40).map (fun i => (i.zero, i.size, i.bytes)) = some (some (.agg #[.int .i64 0, .int .i64 0, .int .i64 0, .int .i64 0]), 4, 32) := by kernel_rfl
theorem info_int : (Try.prog.info? 3).map (fun i => (i.zero, i.size, i.bytes)) = some (some (.int .i64 0), 1, 8) := by kernel_rfl
abbrev OwnSts (base : Nat) (w : World) (v : Value) (l : List St) := Own St.cs 5 70 base w v l
abbrev OwnSpells (base : Nat) (w : World) (v : Value) (l : List Spell) := Own Spell.cs 4 40 base w v l
abbrev OwnInts (base : Nat) (w : World) (v : Value) (l : List Int) := Own (fun n : Int => [Value.int .i64 n]) 1 3 base w v l

end Go.Proofs.Ytbjgebbfachgfaa
