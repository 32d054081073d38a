/- append, where the slice is the call's own: what it yields, and where that lies. -/
import Derived.Laws.OwnMore
import Derived.Test.YtbjgebbfachgfaacJ6
import Derived.Test.YtbjgebbfachgfaacJ3
set_option linter.unusedVariables false
set_option linter.unusedSimpArgs false
set_option linter.unusedSectionVars false
set_option linter.all false
namespace Go.Proofs.Ytbjgebbfachgfaa
open Go.RowKit

/-- two values own no block together -/
def Apart (u v : Value) : Prop := ∀ k, u.ownBlock = some k → v.ownBlock ≠ some k
theorem Apart.symm {u v : Value} (h : Apart u v) : Apart v u := fun k hk he => h k he hk

section
variable {P : Program} (w : World)
theorem run_append_at (base : Nat) (t ty e : TypeId) (i : TypeInfo) (z : Value) (size bytes : Nat) (ht : P.underlying t = some (.slice e)) (hi : P.info? e = some i) (hz : i.zero = some z)
    (hsize : i.size = size) (hby : i.bytes = bytes) (hzs : z.cells.size = size) (hsz : 0 < size) (v : Value) (n : Nat) (xs : List Value) (hown : w.ownsRow base e size v n xs)
    (a : Addr) (m c : Nat) (news : List Value) (hl : news.length = m * size) (hnews : ∀ j u, news[j]? = some u → w.cell? (a.add j) = some u) (h1 : ∀ u ∈ news, u.oneCell' = true)
    (h63 : n + m ≤ maxLen) (hbytes : (n + m) * bytes ≤ 140737488355328) (hbase : base ≤ w.heap.size) :
    ∃ v' w', (Builtin.append_ #[t, t] ty #[v, .slice (some a) m c]).run P w = .ok v' w' ∧ w'.ownsRow base e size v' (n + m) (xs ++ news) ∧ w.grownBy w' v.ownBlock ∧ (v'.ownBlock = v.ownBlock ∨ v'.ownBlock = some w.heap.size) := by
  obtain ⟨v', w', hr, h2, h3, _⟩ := run_append_own (P := P) w base t ty e i z size bytes ht hi hz hsize hby hzs hsz v n xs hown a m c news hl hnews h1 h63 hbytes hbase
  refine ⟨v', w', hr, h2, h3, ?_⟩
  subst hsize
  subst hby
  have hsmall : n + m ≤ 9223372036854775807 := by simp only [maxLen] at h63; omega
  rcases hown.2 with ⟨rfl, rfl⟩ | ⟨g, cap, cur, rfl, hbg, hg, hnc, hcm, hcs, htake⟩
  · by_cases hm : m = 0
    · subst hm
      have hn : news = [] := List.eq_nil_of_length_eq_zero (by simpa using hl)
      subst hn
      have : (Builtin.append_ #[t, t] ty #[.slice none 0 0, .slice (some a) 0 c]).run P w = .ok (.slice none 0 0) w := by
        simp [Builtin.append_, run_underlying ht, sizeOf, typeInfo, hi, Builtin.lenOf, Builtin.firstCells, loadCells, loadCellsFrom]
      rw [this] at hr
      cases hr
      exact .inl rfl
    · have hx : xs = [] := List.eq_nil_of_length_eq_zero (by simpa using hown.1)
      have h := run_append_nil (P := P) w t ty e i z ht hi hz a m c news hl hnews (by omega) (by omega) (by have hb := hbytes; simp only [Nat.zero_add] at hb; omega)
      rw [h] at hr
      cases hr
      exact .inr rfl
  · by_cases hroom : n + m ≤ cap
    · obtain ⟨w2, h, _, _⟩ := run_append_fits (P := P) w base t ty e i i.size ht hi rfl g n cap xs hown a m c news hl hnews h1 hroom
      rw [h] at hr
      cases hr
      exact .inl rfl
    · have holds : ∀ j u, xs[j]? = some u → w.cell? ((⟨g, 0, none⟩ : Addr).add j) = some u := hown.cells (g := g) rfl
      have h := run_append_grow (P := P) w t ty e i z ht hi hz ⟨g, 0, none⟩ n cap xs hown.1 holds a m c news hl hnews (by omega) (by omega) (growslice_fits (by omega) hbytes)
      rw [h] at hr
      cases hr
      exact .inr rfl
theorem run_append_none (base : Nat) (t ty e : TypeId) (i : TypeInfo) (size : Nat) (ht : P.underlying t = some (.slice e)) (hi : P.info? e = some i)
    (v : Value) (n : Nat) (xs : List Value) (hown : w.ownsRow base e size v n xs) (c : Nat) :
    (Builtin.append_ #[t, t] ty #[v, .slice none 0 c]).run P w = .ok v w := by
  rcases hown.2 with ⟨rfl, rfl⟩ | ⟨g, cap, cur, rfl, _, _, hnc, _⟩
  · simp [Builtin.append_, run_underlying ht, sizeOf, typeInfo, hi, Builtin.lenOf, Builtin.firstCells]
  · simp [Builtin.append_, run_underlying ht, sizeOf, typeInfo, hi, Builtin.lenOf, Builtin.firstCells, hnc, storeCells]
end

theorem Rd.flatAt {α : Type} {f : α → List Value} {m : Nat} (hf : ∀ x, (f x).length = m) {w : World} {b off : Nat} : ∀ {l : List α}, (∀ i x, l[i]? = some x → ∀ j v, (f x)[j]? = some v → w.cell? ⟨b, off + i * m + j, none⟩ = some v) → ∀ j u, (l.flatMap f)[j]? = some u → w.cell? ((⟨b, off, none⟩ : Addr).add j) = some u
  | [], _, j, u, h => by simp at h
  | y :: l, hc, j, u, h => by
    have hadd : ∀ j, (⟨b, off, none⟩ : Addr).add j = ⟨b, off + j, none⟩ := by intro j; unfold Addr.add; split <;> simp_all
    rw [hadd]
    simp only [List.flatMap_cons] at h
    rcases Nat.lt_or_ge j (f y).length with hj | hj
    · rw [List.getElem?_append_left hj] at h
      have := hc 0 y rfl j u h
      simpa using this
    · rw [List.getElem?_append_right hj] at h
      have := Rd.flatAt (b := b) (off := off + m) hf (l := l) (fun i x hi k v hv => by
        have := hc (i + 1) x (by simpa using hi) k v hv
        rw [show off + m + i * m + k = off + (i + 1) * m + k by rw [Nat.add_mul]; omega]; exact this) (j - (f y).length) u h
      have hadd2 : ∀ j, (⟨b, off + m, none⟩ : Addr).add j = ⟨b, off + m + j, none⟩ := by intro j; unfold Addr.add; split <;> simp_all
      rw [hadd2] at this
      rw [hf] at this hj
      rw [show off + j = off + m + (j - m) by omega]; exact this

section
variable {P : Program} {o : Oper} {n d : Nat} {s : Nat → Value} {w : World} {K' : Value → World → Prop} {α : Type} {f : α → List Value} {m : Nat}
/-- append(v, l...): v the call's own -/
theorem opF_app (hd : o.dst = some d) (hn : d < n) (x y : Operand) (t : TypeId) (ho : o.op = .call { callee := .builtin .append, args := #[x, y], argTypes := #[t, t] })
    (e : TypeId) (i : TypeInfo) (z : Value) (bytes : Nat) (ht : P.underlying t = some (.slice e)) (hi : P.info? e = some i) (hz : i.zero = some z) (hsize : i.size = m) (hby : i.bytes = bytes) (hzs : z.cells.size = m) (hsz : 0 < m)
    (hf : ∀ x, (f x).length = m) (hone : ∀ x, ∀ u ∈ f x, u.oneCell' = true) (base : Nat) (v : Value) (l l2 : List α) (a : Option Addr) (c : Nat) (hx : evF n s x = v) (hy : evF n s y = .slice a l2.length c) (hown : Own f m e base w v l) (hrd : Rd f m w a l2)
    (h63 : l.length + l2.length ≤ maxLen) (hbytes : (l.length + l2.length) * bytes ≤ 140737488355328) (hbase : base ≤ w.heap.size)
    (h : ∀ v' w', Own f m e base w' v' (l ++ l2) → w.grownBy w' v.ownBlock → (v'.ownBlock = v.ownBlock ∨ v'.ownBlock = some w.heap.size) → K' v' w') : opF P o n s w K' := by
  have hfl : ∀ l : List α, (l.flatMap f).length = l.length * m := by
    intro l
    induction l with
    | nil => simp
    | cons x l ih => simp only [List.flatMap_cons, List.length_append, hf, ih, List.length_cons, Nat.add_mul]; omega
  have fin : ∀ v' w', w'.ownsRow base e m v' (l.length + l2.length) (l.flatMap f ++ l2.flatMap f) → Own f m e base w' v' (l ++ l2) := by
    intro v' w' h2
    unfold Own
    rw [List.length_append, List.flatMap_append]; exact h2
  have key : ∃ v' w', (Builtin.append_ #[t, t] o.type #[v, .slice a l2.length c]).run P w = .ok v' w' ∧ Own f m e base w' v' (l ++ l2) ∧ w.grownBy w' v.ownBlock ∧ (v'.ownBlock = v.ownBlock ∨ v'.ownBlock = some w.heap.size) := by
    rcases hrd with rfl | ⟨b, off, rfl, hlt, hc⟩
    · cases a with
      | none =>
        refine ⟨v, w, run_append_none w base t o.type e i m ht hi v l.length (l.flatMap f) hown c, by simpa using hown, ⟨rfl, rfl, rfl, Nat.le_refl _, fun _ _ _ => rfl⟩, .inl rfl⟩
      | some ad =>
        obtain ⟨v', w', hr, h2, h3, h4⟩ := run_append_at (P := P) w base t o.type e i z m bytes ht hi hz hsize hby hzs hsz v l.length (l.flatMap f) hown ad 0 c [] (by simp) (fun j u hj => by simp at hj) (fun u hu => by simp at hu) (by simpa using h63) (by simpa using hbytes) hbase
        exact ⟨v', w', by simpa using hr, fin _ _ (by simpa using h2), h3, h4⟩
    · obtain ⟨v', w', hr, h2, h3, h4⟩ := run_append_at (P := P) w base t o.type e i z m bytes ht hi hz hsize hby hzs hsz v l.length (l.flatMap f) hown ⟨b, off, none⟩ l2.length c (l2.flatMap f) (hfl l2) (Rd.flatAt hf hc)
        (fun u hu => by obtain ⟨x, _, hux⟩ := List.mem_flatMap.1 hu; exact hone x u hux) h63 hbytes hbase
      exact ⟨v', w', hr, fin _ _ h2, h3, h4⟩
  obtain ⟨v', w', hr, h2, h3, h4⟩ := key
  refine opF_of_wp hd hn (fun K Q hK => ?_)
  unfold Oper.wp execOp
  simp only [ho, resolve, invoke, builtin, Sem.run_bind, Sem.run_pure, Result.andThen_ok, List.map_toArray, List.map_cons, List.map_nil, mkA_eval, hx, hy, hr]
  exact hK _ _ (h v' w' h2 h3 h4)

theorem Own.grown {T : TypeId} {base : Nat} {w' : World} {u v : Value} {l : List α} (h : Own f m T base w u l) (hg : w.grownBy w' v.ownBlock) (ha : Apart u v) : Own f m T base w' u l :=
  h.kept fun g hgu => hg.block g (World.ownsRow.lt h g hgu).2 (fun e => ha g hgu e.symm)
theorem Own.lit {T : TypeId} {base : Nat} {cs : Array Value} {l : List α} (hb : base ≤ w.heap.size) (hm : l.length ≤ maxLen) (hs : cs.toList = l.flatMap f) (hf : ∀ x, (f x).length = m) : Own f m T base (w.alloc (.cells cs T)) (.slice (some ⟨w.heap.size, 0, none⟩) l.length l.length) l := by
  have hfl : (l.flatMap f).length = l.length * m := by
    clear hm hs
    induction l with
    | nil => simp
    | cons x l ih => simp only [List.flatMap_cons, List.length_append, hf, ih, List.length_cons, Nat.add_mul]; omega
  unfold Own
  rw [← hs]
  exact World.ownsRow_lit w cs l.length hb hm (by rw [← Array.length_toList, hs, hfl])
theorem Apart.new {T : TypeId} {base : Nat} {u : Value} {l : List α} (h : Own f m T base w u l) (k c : Nat) : Apart u (.slice (some ⟨w.heap.size, 0, none⟩) k c) := by
  intro g hg he
  have := (World.ownsRow.lt h g hg).2
  simp only [Value.ownBlock, Option.some.injEq] at he
  omega
/-- what append yields lies apart from what lay apart from what it was given -/
theorem Apart.app {T : TypeId} {base : Nat} {u v v' : Value} {l : List α} (h : Own f m T base w u l) (ha : Apart u v) (hv : v'.ownBlock = v.ownBlock ∨ v'.ownBlock = some w.heap.size) : Apart u v' := by
  intro g hg he
  rcases hv with e | e
  · exact ha g hg (by rw [← e]; exact he)
  · rw [e] at he
    have := (World.ownsRow.lt h g hg).2
    simp only [Option.some.injEq] at he
    omega
theorem Cells.grown {w' : World} {b : Nat} {c : List Value} {v : Value} (h : Cells w b c) (hg : w.grownBy w' v.ownBlock) (hn : v.ownBlock ≠ some b) : Cells w' b c := h.same (hg.block b h.1 (fun e => hn e.symm)) hg.size
theorem Rd.grown {w' : World} {a : Option Addr} {l : List α} {v : Value} (h : Rd f m w a l) (hg : w.grownBy w' v.ownBlock) (hn : l ≠ [] → ∀ b, a = some b → v.ownBlock ≠ some b.block) : Rd f m w' a l := by
  by_cases hl : l = []
  · exact .inl hl
  rcases h with h | ⟨b, off, ha, hlt, hc⟩
  · exact .inl h
  · exact .inr ⟨b, off, ha, Nat.lt_of_lt_of_le hlt hg.size, fun i x hi j u hj => (cellBk (hg.block b hlt (fun e => hn hl _ ha e.symm))).trans (hc i x hi j u hj)⟩
theorem Rd.far {a : Option Addr} {l : List α} {Y k : Nat} {u : Value} (h : Rd f m w a l) (hn : l ≠ [] → ∀ b, a = some b → b.block ≠ Y) : Rd f m (w.setCell ⟨Y, k, none⟩ u) a l := by
  by_cases hl : l = []
  · exact .inl hl
  rcases h with h | ⟨b, off, ha, hlt, hc⟩
  · exact .inl h
  · exact .inr ⟨b, off, ha, by simpa using hlt, fun i x hi j v hj => (World.cell?_setCell_other _ _ _ _ (fun e => by cases e; exact hn hl _ ha rfl)).trans (hc i x hi j v hj)⟩
theorem Rd.lt {a : Option Addr} {l : List α} (h : Rd f m w a l) (hl : l ≠ []) : ∀ b, a = some b → b.block < w.heap.size := by
  rcases h with h | ⟨b, off, ha, hlt, hc⟩
  · exact absurd h hl
  · intro c hc; rw [ha] at hc; cases hc; exact hlt
theorem low_grown {w0 w' : World} {N : Nat} {v : Value} (h : Below N w0 w) (hg : w.grownBy w' v.ownBlock) (hs : N ≤ w.heap.size) (hv : ∀ k, v.ownBlock = some k → N ≤ k) : Below N w0 w' :=
  h.trans ⟨hg.os, hg.tape, hg.output, hg.size, fun k hk => hg.block k (by omega) (fun e => by have := hv k e.symm; omega)⟩
theorem Own.setFar' {T : TypeId} {base Y k : Nat} {v : Value} {l : List α} (h : Own f m T base w v l) (hY : Y < base) (u : Value) : Own f m T base (w.setCell ⟨Y, k, none⟩ u) v l :=
  h.kept fun g hg => Below.heap_setCell _ _ _ _ (fun e => by have := (World.ownsRow.lt h g hg).1; simp at e; omega)
theorem Own.far {T : TypeId} {base b : Nat} {v : Value} {l : List α} (h : Own f m T base w v l) (hb : b < base) : v.ownBlock ≠ some b := fun e => by have := (World.ownsRow.lt h b e).1; omega
end

end Go.Proofs.Ytbjgebbfachgfaa
