/- General lemmas: append with the wide limit. -/
import Derived.Test.YtleknidlgmmgbaaGreattsG2
import Derived.Laws.OwnMore
import Derived.RangeFuncNested
import Derived.RangeFuncCalls
import Derived.RangeFuncLeaves
import Derived.Maps.Own
import Derived.IntWalk
import Derived.OpenShut
import Derived.RecoverIn
import Derived.OrdersIn
import Derived.Deep.DeepAppendWide
set_option linter.all false
namespace Go.Proofs.YtleknidlgmmgbaaGreat

section
open Go.RowKit

section
theorem cell_block {w w' : World} {b o : Nat} (h : w'.heap[b]? = w.heap[b]?) : w'.cell? ⟨b, o, none⟩ = w.cell? ⟨b, o, none⟩ := by
  simp only [World.cell?, h]
theorem frozen_block {w w' : World} {b o : Nat} (h : w'.heap[b]? = w.heap[b]?) : w'.frozen? ⟨b, o, none⟩ = w.frozen? ⟨b, o, none⟩ := by
  simp only [World.frozen?, h]
end

section
theorem Own.rd' {α : Type} {f : α → List Value} {m : Nat} (hf : ∀ x, (f x).length = m) {T : TypeId} {base : Nat} {w : World} {v : Value} {l : List α} (h : Own f m T base w v l) {a : Option Addr} {n c : Nat} (hv : v = .slice a n c) : Rd f m w a l := by
  obtain ⟨a', c', h1, h2, _⟩ := Own.rd hf h
  rw [h1] at hv; cases hv; exact h2
end

section
theorem Cells.kept {w w' : World} {b : Nat} {l : List Value} (h : Cells w b l) (hb : w'.heap[b]? = w.heap[b]?) (hs : w.heap.size ≤ w'.heap.size) : Cells w' b l :=
  ⟨Nat.lt_of_lt_of_le h.1 hs, fun i v hv => (cell_block hb).trans (h.2.1 i v hv), fun o => (frozen_block hb).trans (h.2.2 o)⟩
theorem Rd.block {α : Type} {f : α → List Value} {m : Nat} {w w' : World} {g o : Nat} {l : List α} (h : Rd f m w (some ⟨g, o, none⟩) l) (hb : w'.heap[g]? = w.heap[g]?) (hs : w.heap.size ≤ w'.heap.size) : Rd f m w' (some ⟨g, o, none⟩) l := by
  rcases h with h | ⟨b, off, ha, hlt, hc⟩
  · exact .inl h
  · cases ha
    exact .inr ⟨g, o, rfl, Nat.lt_of_lt_of_le hlt hs, fun i x hi j v hj => (cell_block hb).trans (hc i x hi j v hj)⟩
theorem Own.frozen {α : Type} {f : α → List Value} {m : Nat} {T : TypeId} {base : Nat} {w : World} {g n cap : Nat} {l : List α} (h : Own f m T base w (.slice (some ⟨g, 0, none⟩) n cap) l) : ∀ o, w.frozen? ⟨g, o, none⟩ = false := by
  intro o
  rcases h.2 with ⟨h1, _⟩ | ⟨g', cap', cur, hv, _, hg, _⟩
  · cases h1
  · cases hv
    simp [World.frozen?, hg]
theorem Own.cells0 {α : Type} {f : α → List Value} {m : Nat} (hf : ∀ x, (f x).length = m) {T : TypeId} {base : Nat} {w : World} {g n cap : Nat} {l : List α} (h : Own f m T base w (.slice (some ⟨g, 0, none⟩) n cap) l) : ∀ i x, l[i]? = some x → ∀ j v, (f x)[j]? = some v → w.cell? ⟨g, i * m + j, none⟩ = some v := by
  intro i x hi j v hj
  rcases Own.rd' hf h rfl with h0 | ⟨b, off, he, _, hc⟩
  · rw [h0] at hi; cases hi
  · cases he
    have := hc i x hi j v hj
    rwa [Nat.zero_add] at this
end

section
theorem Cells.conv {w : World} {b : Nat} {l l' : List Value} (h : Cells w b l') (e : l' = l) : Cells w b l := e ▸ h
end

section
/-- where the memory that a slice of the call's own lies in may have changed -/
structure GB (v : Value) (w0 w : World) : Prop where
  os : w.os = w0.os
  tape : w.tape = w0.tape
  output : w.output = w0.output
  size : w0.heap.size ≤ w.heap.size
  block : ∀ k, k < w0.heap.size → some k ≠ v.ownBlock → w.heap[k]? = w0.heap[k]?
theorem GB.cells {v : Value} {w0 w : World} (h : GB v w0 w) {b : Nat} {l : List Value} (k : Cells w0 b l) (hn : some b ≠ v.ownBlock) : Cells w b l := k.same (h.block b k.1 hn) h.size
theorem Rd.old {α : Type} {f : α → List Value} {m : Nat} {w w' : World} {Bs : List Nat} {a : Option Addr} {l : List α} (h : Rd f m w a l) (ho : OldB Bs w.drew w') (hn : ∀ b, a = some b → b.block ∉ Bs) : Rd f m w' a l := by
  rcases h with h | ⟨b, off, ha, hlt, hc⟩
  · exact .inl h
  · exact .inr ⟨b, off, ha, Nat.lt_of_lt_of_le hlt ho.size, fun i x hi j v hj => (cellBk (ho.block b hlt (hn _ ha))).trans (hc i x hi j v hj)⟩
theorem Rd.gb {α : Type} {f : α → List Value} {m : Nat} {w w' : World} {v : Value} {a : Option Addr} {l : List α} (h : Rd f m w a l) (ho : GB v w w') (hn : ∀ b, a = some b → some b.block ≠ v.ownBlock) : Rd f m w' a l := by
  rcases h with h | ⟨b, off, ha, hlt, hc⟩
  · exact .inl h
  · exact .inr ⟨b, off, ha, Nat.lt_of_lt_of_le hlt ho.size, fun i x hi j v hj => (cellBk (ho.block b hlt (hn _ ha))).trans (hc i x hi j v hj)⟩
theorem Own.slice {α : Type} {f : α → List Value} {m : Nat} (hf : ∀ x, (f x).length = m) {T : TypeId} {base : Nat} {w : World} {v : Value} {l : List α} (h : Own f m T base w v l) :
    ∃ a c, v = .slice a l.length c ∧ Rd f m w a l ∧ ∀ b, a = some b → base ≤ b.block := by
  rcases Own.formN h (n := l.length) rfl with ⟨rfl, hl0, hk0⟩ | ⟨g, cap, rfl, hg1, hg2, _⟩
  · exact ⟨none, 0, by rw [hk0], by rw [hl0]; exact .inl rfl, fun b hb => by cases hb⟩
  · exact ⟨_, cap, rfl, Own.rd' hf h rfl, fun b hb => by cases hb; exact hg1⟩
theorem Cells.news {w : World} {X : Nat} {l : List Value} (h : Cells w X l) : ∀ j u, l[j]? = some u → w.cell? ((⟨X, 0, none⟩ : Addr).add j) = some u := by
  intro j u hu
  have hadd : (⟨X, 0, none⟩ : Addr).add j = ⟨X, j, none⟩ := by unfold Addr.add; split <;> simp_all
  rw [hadd]; exact h.2.1 j u hu
theorem Rd.setFar {α : Type} {f : α → List Value} {m : Nat} {w : World} {a : Option Addr} {l : List α} {Y o : Nat} {u : Value} (h : Rd f m w a l) (hn : ∀ b, a = some b → b.block ≠ Y) : Rd f m (w.setCell ⟨Y, o, none⟩ u) a l := by
  rcases h with h | ⟨b, off, ha, hlt, hc⟩
  · exact .inl h
  · exact .inr ⟨b, off, ha, by simpa using hlt, fun i x hi j v hj => (World.cell?_setCell_other _ _ _ _ (fun e => by cases e; exact hn _ ha rfl)).trans (hc i x hi j v hj)⟩
end

section
theorem GB.below {v : Value} {w0 w w' : World} (h : GB v w0 w) (hb : Below w.heap.size w w') : GB v w0 w' :=
  ⟨hb.os.trans h.os, hb.tape.trans h.tape, hb.output.trans h.output, Nat.le_trans h.size hb.size, fun k hk hn => (hb.block k (Nat.lt_of_lt_of_le hk h.size)).trans (h.block k hk hn)⟩
theorem GB.grown {v : Value} {w0 w w' : World} (h : GB v w0 w) (hg : w.grownBy w' v.ownBlock) : GB v w0 w' :=
  ⟨hg.os.trans h.os, hg.tape.trans h.tape, hg.output.trans h.output, Nat.le_trans h.size hg.size, fun k hk hn => (hg.block k (Nat.lt_of_lt_of_le hk h.size) hn).trans (h.block k hk hn)⟩
theorem wf_of {n : Int} (h1 : -9223372036854775808 ≤ n) (h2 : n ≤ 9223372036854775807) : (Lit.int .i64 n).wf = true := by
  have := Go.wf_wrap .i64 n
  rwa [IntWalk.i64_in _ (by omega)] at this
end

section
theorem Own.base {α : Type} {f : α → List Value} {m : Nat} {T : TypeId} {base base' : Nat} {w : World} {v : Value} {l : List α} (h : Own f m T base w v l) (hb : base' ≤ base) : Own f m T base' w v l := by
  refine ⟨h.1, ?_⟩
  rcases h.2 with hn | ⟨g, cap, cur, hv, hg, rest⟩
  · exact .inl hn
  · exact .inr ⟨g, cap, cur, hv, by omega, rest⟩
end

section
end

section
/-- two values own no block together -/
def Apart (u v : Value) : Prop := ∀ k, u.ownBlock = some k → v.ownBlock ≠ some k
theorem Apart.symm {u v : Value} (h : Apart u v) : Apart v u := fun k hk he => h k he hk

section
variable {P : Program} (w : World)
theorem run_append_at (base : Nat) (t ty e : TypeId) (i : TypeInfo) (z : Value) (size bytes : Nat) (ht : P.underlying t = some (.slice e)) (hi : P.info? e = some i) (hz : i.zero = some z)
    (hsize : i.size = size) (hby : i.bytes = bytes) (hzs : z.cells.size = size) (hsz : 0 < size) (v : Value) (n : Nat) (xs : List Value) (hown : w.ownsRow base e size v n xs)
    (a : Addr) (m c : Nat) (news : List Value) (hl : news.length = m * size) (hnews : ∀ j u, news[j]? = some u → w.cell? (a.add j) = some u) (h1 : ∀ u ∈ news, u.oneCell' = true)
    (h63 : n + m ≤ maxLen) (hbytes : (n + m) * bytes ≤ 140737488355328) (hbase : base ≤ w.heap.size) :
    ∃ v' w', (Builtin.append_ #[t, t] ty #[v, .slice (some a) m c]).run P w = .ok v' w' ∧ w'.ownsRow base e size v' (n + m) (xs ++ news) ∧ w.grownBy w' v.ownBlock ∧ (v'.ownBlock = v.ownBlock ∨ v'.ownBlock = some w.heap.size) := by
  obtain ⟨v', w', hr, h2, h3, _⟩ := run_append_own (P := P) w base t ty e i z size bytes ht hi hz hsize hby hzs hsz v n xs hown a m c news hl hnews h1 h63 hbytes hbase
  refine ⟨v', w', hr, h2, h3, ?_⟩
  subst hsize
  subst hby
  have hsmall : n + m ≤ 9223372036854775807 := by simp only [maxLen] at h63; omega
  rcases hown.2 with ⟨rfl, rfl⟩ | ⟨g, cap, cur, rfl, hbg, hg, hnc, hcm, hcs, htake⟩
  · by_cases hm : m = 0
    · subst hm
      have hn : news = [] := List.eq_nil_of_length_eq_zero (by simpa using hl)
      subst hn
      have : (Builtin.append_ #[t, t] ty #[.slice none 0 0, .slice (some a) 0 c]).run P w = .ok (.slice none 0 0) w := by
        simp [Builtin.append_, run_underlying ht, sizeOf, typeInfo, hi, Builtin.lenOf, Builtin.firstCells, loadCells, loadCellsFrom]
      rw [this] at hr
      cases hr
      exact .inl rfl
    · have hx : xs = [] := List.eq_nil_of_length_eq_zero (by simpa using hown.1)
      have h := run_append_nil (P := P) w t ty e i z ht hi hz a m c news hl hnews (by omega) (by omega) (by have hb := hbytes; simp only [Nat.zero_add] at hb; omega)
      rw [h] at hr
      cases hr
      exact .inr rfl
  · by_cases hroom : n + m ≤ cap
    · obtain ⟨w2, h, _, _⟩ := run_append_fits (P := P) w base t ty e i i.size ht hi rfl g n cap xs hown a m c news hl hnews h1 hroom
      rw [h] at hr
      cases hr
      exact .inl rfl
    · have holds : ∀ j u, xs[j]? = some u → w.cell? ((⟨g, 0, none⟩ : Addr).add j) = some u := hown.cells (g := g) rfl
      have h := run_append_grow (P := P) w t ty e i z ht hi hz ⟨g, 0, none⟩ n cap xs hown.1 holds a m c news hl hnews (by omega) (by omega) (growslice_fits (by omega) hbytes)
      rw [h] at hr
      cases hr
      exact .inr rfl
theorem run_append_none (base : Nat) (t ty e : TypeId) (i : TypeInfo) (size : Nat) (ht : P.underlying t = some (.slice e)) (hi : P.info? e = some i)
    (v : Value) (n : Nat) (xs : List Value) (hown : w.ownsRow base e size v n xs) (c : Nat) :
    (Builtin.append_ #[t, t] ty #[v, .slice none 0 c]).run P w = .ok v w := by
  rcases hown.2 with ⟨rfl, rfl⟩ | ⟨g, cap, cur, rfl, _, _, hnc, _⟩
  · simp [Builtin.append_, run_underlying ht, sizeOf, typeInfo, hi, Builtin.lenOf, Builtin.firstCells]
  · simp [Builtin.append_, run_underlying ht, sizeOf, typeInfo, hi, Builtin.lenOf, Builtin.firstCells, hnc, storeCells]
end

theorem Rd.flatAt {α : Type} {f : α → List Value} {m : Nat} (hf : ∀ x, (f x).length = m) {w : World} {b off : Nat} : ∀ {l : List α}, (∀ i x, l[i]? = some x → ∀ j v, (f x)[j]? = some v → w.cell? ⟨b, off + i * m + j, none⟩ = some v) → ∀ j u, (l.flatMap f)[j]? = some u → w.cell? ((⟨b, off, none⟩ : Addr).add j) = some u
  | [], _, j, u, h => by simp at h
  | y :: l, hc, j, u, h => by
    have hadd : ∀ j, (⟨b, off, none⟩ : Addr).add j = ⟨b, off + j, none⟩ := by intro j; unfold Addr.add; split <;> simp_all
    rw [hadd]
    simp only [List.flatMap_cons] at h
    rcases Nat.lt_or_ge j (f y).length with hj | hj
    · rw [List.getElem?_append_left hj] at h
      have := hc 0 y rfl j u h
      simpa using this
    · rw [List.getElem?_append_right hj] at h
      have := Rd.flatAt (b := b) (off := off + m) hf (l := l) (fun i x hi k v hv => by
        have := hc (i + 1) x (by simpa using hi) k v hv
        rw [show off + m + i * m + k = off + (i + 1) * m + k by rw [Nat.add_mul]; omega]; exact this) (j - (f y).length) u h
      have hadd2 : ∀ j, (⟨b, off + m, none⟩ : Addr).add j = ⟨b, off + m + j, none⟩ := by intro j; unfold Addr.add; split <;> simp_all
      rw [hadd2] at this
      rw [hf] at this hj
      rw [show off + j = off + m + (j - m) by omega]; exact this

section
variable {P : Program} {o : Oper} {n d : Nat} {s : Nat → Value} {w : World} {K' : Value → World → Prop} {α : Type} {f : α → List Value} {m : Nat}
/-- append(v, l...): v the call's own -/
theorem opF_app (hd : o.dst = some d) (hn : d < n) (x y : Operand) (t : TypeId) (ho : o.op = .call { callee := .builtin .append, args := #[x, y], argTypes := #[t, t] })
    (e : TypeId) (i : TypeInfo) (z : Value) (bytes : Nat) (ht : P.underlying t = some (.slice e)) (hi : P.info? e = some i) (hz : i.zero = some z) (hsize : i.size = m) (hby : i.bytes = bytes) (hzs : z.cells.size = m) (hsz : 0 < m)
    (hf : ∀ x, (f x).length = m) (hone : ∀ x, ∀ u ∈ f x, u.oneCell' = true) (base : Nat) (v : Value) (l l2 : List α) (a : Option Addr) (c : Nat) (hx : evF n s x = v) (hy : evF n s y = .slice a l2.length c) (hown : Own f m e base w v l) (hrd : Rd f m w a l2)
    (h63 : l.length + l2.length ≤ maxLen) (hbytes : (l.length + l2.length) * bytes ≤ 140737488355328) (hbase : base ≤ w.heap.size)
    (h : ∀ v' w', Own f m e base w' v' (l ++ l2) → w.grownBy w' v.ownBlock → (v'.ownBlock = v.ownBlock ∨ v'.ownBlock = some w.heap.size) → K' v' w') : opF P o n s w K' := by
  have hfl : ∀ l : List α, (l.flatMap f).length = l.length * m := by
    intro l
    induction l with
    | nil => simp
    | cons x l ih => simp only [List.flatMap_cons, List.length_append, hf, ih, List.length_cons, Nat.add_mul]; omega
  have fin : ∀ v' w', w'.ownsRow base e m v' (l.length + l2.length) (l.flatMap f ++ l2.flatMap f) → Own f m e base w' v' (l ++ l2) := by
    intro v' w' h2
    unfold Own
    rw [List.length_append, List.flatMap_append]; exact h2
  have key : ∃ v' w', (Builtin.append_ #[t, t] o.type #[v, .slice a l2.length c]).run P w = .ok v' w' ∧ Own f m e base w' v' (l ++ l2) ∧ w.grownBy w' v.ownBlock ∧ (v'.ownBlock = v.ownBlock ∨ v'.ownBlock = some w.heap.size) := by
    rcases hrd with rfl | ⟨b, off, rfl, hlt, hc⟩
    · cases a with
      | none =>
        refine ⟨v, w, run_append_none w base t o.type e i m ht hi v l.length (l.flatMap f) hown c, by simpa using hown, ⟨rfl, rfl, rfl, Nat.le_refl _, fun _ _ _ => rfl⟩, .inl rfl⟩
      | some ad =>
        obtain ⟨v', w', hr, h2, h3, h4⟩ := run_append_at (P := P) w base t o.type e i z m bytes ht hi hz hsize hby hzs hsz v l.length (l.flatMap f) hown ad 0 c [] (by simp) (fun j u hj => by simp at hj) (fun u hu => by simp at hu) (by simpa using h63) (by simpa using hbytes) hbase
        exact ⟨v', w', by simpa using hr, fin _ _ (by simpa using h2), h3, h4⟩
    · obtain ⟨v', w', hr, h2, h3, h4⟩ := run_append_at (P := P) w base t o.type e i z m bytes ht hi hz hsize hby hzs hsz v l.length (l.flatMap f) hown ⟨b, off, none⟩ l2.length c (l2.flatMap f) (hfl l2) (Rd.flatAt hf hc)
        (fun u hu => by obtain ⟨x, _, hux⟩ := List.mem_flatMap.1 hu; exact hone x u hux) h63 hbytes hbase
      exact ⟨v', w', hr, fin _ _ h2, h3, h4⟩
  obtain ⟨v', w', hr, h2, h3, h4⟩ := key
  refine opF_of_wp hd hn (fun K Q hK => ?_)
  unfold Oper.wp execOp
  simp only [ho, resolve, invoke, builtin, Sem.run_bind, Sem.run_pure, Result.andThen_ok, List.map_toArray, List.map_cons, List.map_nil, mkA_eval, hx, hy, hr]
  exact hK _ _ (h v' w' h2 h3 h4)

theorem Own.grown {T : TypeId} {base : Nat} {w' : World} {u v : Value} {l : List α} (h : Own f m T base w u l) (hg : w.grownBy w' v.ownBlock) (ha : Apart u v) : Own f m T base w' u l :=
  h.kept fun g hgu => hg.block g (World.ownsRow.lt h g hgu).2 (fun e => ha g hgu e.symm)
theorem Own.lit {T : TypeId} {base : Nat} {cs : Array Value} {l : List α} (hb : base ≤ w.heap.size) (hm : l.length ≤ maxLen) (hs : cs.toList = l.flatMap f) (hf : ∀ x, (f x).length = m) : Own f m T base (w.alloc (.cells cs T)) (.slice (some ⟨w.heap.size, 0, none⟩) l.length l.length) l := by
  have hfl : (l.flatMap f).length = l.length * m := by
    clear hm hs
    induction l with
    | nil => simp
    | cons x l ih => simp only [List.flatMap_cons, List.length_append, hf, ih, List.length_cons, Nat.add_mul]; omega
  unfold Own
  rw [← hs]
  exact World.ownsRow_lit w cs l.length hb hm (by rw [← Array.length_toList, hs, hfl])
theorem Apart.new {T : TypeId} {base : Nat} {u : Value} {l : List α} (h : Own f m T base w u l) (k c : Nat) : Apart u (.slice (some ⟨w.heap.size, 0, none⟩) k c) := by
  intro g hg he
  have := (World.ownsRow.lt h g hg).2
  simp only [Value.ownBlock, Option.some.injEq] at he
  omega
/-- what append yields lies apart from what lay apart from what it was given -/
theorem Apart.app {T : TypeId} {base : Nat} {u v v' : Value} {l : List α} (h : Own f m T base w u l) (ha : Apart u v) (hv : v'.ownBlock = v.ownBlock ∨ v'.ownBlock = some w.heap.size) : Apart u v' := by
  intro g hg he
  rcases hv with e | e
  · exact ha g hg (by rw [← e]; exact he)
  · rw [e] at he
    have := (World.ownsRow.lt h g hg).2
    simp only [Option.some.injEq] at he
    omega
theorem Cells.grown {w' : World} {b : Nat} {c : List Value} {v : Value} (h : Cells w b c) (hg : w.grownBy w' v.ownBlock) (hn : v.ownBlock ≠ some b) : Cells w' b c := h.same (hg.block b h.1 (fun e => hn e.symm)) hg.size
theorem Rd.grown {w' : World} {a : Option Addr} {l : List α} {v : Value} (h : Rd f m w a l) (hg : w.grownBy w' v.ownBlock) (hn : l ≠ [] → ∀ b, a = some b → v.ownBlock ≠ some b.block) : Rd f m w' a l := by
  by_cases hl : l = []
  · exact .inl hl
  rcases h with h | ⟨b, off, ha, hlt, hc⟩
  · exact .inl h
  · exact .inr ⟨b, off, ha, Nat.lt_of_lt_of_le hlt hg.size, fun i x hi j u hj => (cellBk (hg.block b hlt (fun e => hn hl _ ha e.symm))).trans (hc i x hi j u hj)⟩
theorem Rd.far {a : Option Addr} {l : List α} {Y k : Nat} {u : Value} (h : Rd f m w a l) (hn : l ≠ [] → ∀ b, a = some b → b.block ≠ Y) : Rd f m (w.setCell ⟨Y, k, none⟩ u) a l := by
  by_cases hl : l = []
  · exact .inl hl
  rcases h with h | ⟨b, off, ha, hlt, hc⟩
  · exact .inl h
  · exact .inr ⟨b, off, ha, by simpa using hlt, fun i x hi j v hj => (World.cell?_setCell_other _ _ _ _ (fun e => by cases e; exact hn hl _ ha rfl)).trans (hc i x hi j v hj)⟩
theorem Rd.lt {a : Option Addr} {l : List α} (h : Rd f m w a l) (hl : l ≠ []) : ∀ b, a = some b → b.block < w.heap.size := by
  rcases h with h | ⟨b, off, ha, hlt, hc⟩
  · exact absurd h hl
  · intro c hc; rw [ha] at hc; cases hc; exact hlt
theorem low_grown {w0 w' : World} {N : Nat} {v : Value} (h : Below N w0 w) (hg : w.grownBy w' v.ownBlock) (hs : N ≤ w.heap.size) (hv : ∀ k, v.ownBlock = some k → N ≤ k) : Below N w0 w' :=
  h.trans ⟨hg.os, hg.tape, hg.output, hg.size, fun k hk => hg.block k (by omega) (fun e => by have := hv k e.symm; omega)⟩
theorem Own.setFar' {T : TypeId} {base Y k : Nat} {v : Value} {l : List α} (h : Own f m T base w v l) (hY : Y < base) (u : Value) : Own f m T base (w.setCell ⟨Y, k, none⟩ u) v l :=
  h.kept fun g hg => Below.heap_setCell _ _ _ _ (fun e => by have := (World.ownsRow.lt h g hg).1; simp at e; omega)
theorem Own.far {T : TypeId} {base b : Nat} {v : Value} {l : List α} (h : Own f m T base w v l) (hb : b < base) : v.ownBlock ≠ some b := fun e => by have := (World.ownsRow.lt h b e).1; omega
end
end

section
end

section
theorem cut_any {P : Program} {c : Code} {n : Nat} {ds : List Deferred} {Q : Exit → Act → World → Prop} {s0 : Nat → Value} {w0 : World} (K : (Nat → Value) → World → Prop)
    (h : c.wp P (fun e a w => e = .normal ∧ ∃ s, a = mkA n s ds ∧ K s w) (mkA n s0 ds) w0) (hK : ∀ s w, K s w → Q .normal (mkA n s ds) w) : c.wp P Q (mkA n s0 ds) w0 :=
  wp_mono h (by rintro e a w ⟨rfl, s, rfl, hk⟩; exact hK s w hk)
end

section
theorem enterM_F {P : Program} {f : FuncId} {fn : Func} {c : Code} {args : Array Value} {w : World} {R : Ending → World → Prop} {n : Nat} (hf : P.funcs[f]? = some fn) (hb : fn.body = some c) (hn : fn.ntmps = n) (ha : args.size ≤ n)
    (h : ∀ s : Nat → Value, (∀ i, i < args.size → s i = args[i]?.getD undef) → c.wp P (bodyPostM Fence.wide 0 P fn R) (mkA n s []) w) : Calls P f args w R := by
  refine callsIn_wide.1 (callsIn_of_wp_marks (n := 0) hf hb trivial (wpIn_wide.2 ?_))
  rw [hn]
  have hmk := mkA_of { tmps := args ++ Array.replicate (n - args.size) undef, defers := [] } rfl
  have hsz : (args ++ Array.replicate (n - args.size) undef).size = n := by simp; omega
  rw [hmk]
  simp only [hsz]
  refine h _ fun i hi => ?_
  simp [Array.getD_eq_getD_getElem?, Array.getElem?_append_left, hi]
theorem retM_F {P : Program} {fn : Func} {R : Ending → World → Prop} {n : Nat} {s : Nat → Value} {w : World} (v : Value) (hr : (results fn (tmA n s)).run P w = .ok v w) (h : R (.returned v) w) : bodyPostM Fence.wide 0 P fn R .ret (mkA n s []) w := ⟨v, hr, h⟩
theorem retMark_F {P : Program} {fn : Func} {R : Ending → World → Prop} {n : Nat} {s : Nat → Value} {w : World} {D : Nat} (v : Value) (hD : w.heap[D]? = some (.deferred (some [])))
    (hr : (results fn (tmA n s)).run P (w.putObj D (.deferred none)) = .ok v (w.putObj D (.deferred none))) (h : R (.returned v) (w.putObj D (.deferred none))) : bodyPostM Fence.wide 0 P fn R .ret (mkA n s [{ target := .collected D, args := #[] }]) w :=
  ⟨by simp, .inl ⟨_, _, rfl, run_takeDeferred hD, v, hr, h⟩⟩
/- a world in which one block was put -/
theorem bel_put {N X : Nat} {w0 w : World} {o : Obj} (h : Below N w0 w) (hX : N ≤ X) : Below N w0 (w.putObj X o) :=
  ⟨h.os, h.tape, h.output, by rw [World.putObj_size]; exact h.size, fun k hk => by rw [World.putObj_heap_other (by omega)]; exact h.block k hk⟩
theorem Cells.put {w : World} {b X : Nat} {l : List Value} {o : Obj} (h : Cells w b l) (hn : b ≠ X) : Cells (w.putObj X o) b l := h.kept (World.putObj_heap_other hn) (by rw [World.putObj_size]; exact Nat.le_refl _)
theorem Rd.put {α : Type} {f : α → List Value} {m : Nat} {w : World} {X : Nat} {o : Obj} {a : Option Addr} {l : List α} (h : Rd f m w a l) (hn : ∀ b, a = some b → b.block ≠ X) : Rd f m (w.putObj X o) a l := by
  rcases h with h | ⟨b, off, ha, hlt, hc⟩
  · exact .inl h
  · exact .inr ⟨b, off, ha, by rw [World.putObj_size]; exact hlt, fun i x hi j v hj => (cell_block (World.putObj_heap_other (hn _ ha))).trans (hc i x hi j v hj)⟩
theorem zip1 {α β : Type} (k : α) (v : β) : (#[k].zip #[v]) = #[(k, v)] := by simp [Array.zip]
theorem foldl1 {α β : Type} (f : β → α → β) (b : β) (x : α) : Array.foldl f b #[x] 0 (#[x] : Array α).size = f b x := by simp
theorem Own.cap {α : Type} {f : α → List Value} {m : Nat} {T : TypeId} {base : Nat} {w : World} {a : Option Addr} {n c : Nat} {l : List α} (h : Own f m T base w (.slice a n c) l) : l.length ≤ c := by
  rcases h.2 with ⟨hv, hn⟩ | ⟨g, cap, cur, hv, _, _, hc, _⟩
  · omega
  · cases hv; exact hc
end

section
/-- the loop's own two blocks: the rounds' deferred calls (none), and the record behind them -/
def LoopAt (W : World) (l : Nat) (r : Loop) : Prop := W.heap[l + 1]? = some (.loop r) ∧ W.heap[l]? = some (.deferred (some []))
theorem LoopAt.put {W : World} {l : Nat} {r r' : Loop} (h : LoopAt W l r) : LoopAt (W.putObj (l + 1) (.loop r')) l r' :=
  ⟨World.putObj_heap_same (Array.getElem?_eq_some_iff.1 h.1).1, (World.putObj_heap_other (by omega)).trans h.2⟩

end

section
variable {ds : List Deferred}

def Fw (ρ : Option Nat) : Fence := { Fence.wide with round := ρ }
theorem callsIn_Fw {ρ : Option Nat} {n : Nat} {P : Program} {f : FuncId} {args : Array Value} {w : World} {R : Ending → World → Prop} (h : Calls P f args w R) : CallsIn (Fw ρ) n P f args w R := by
  have h2 : CallsIn Fence.wide n P f args w R := callsIn_wide.2 h
  exact h2

section
variable {P : Program} {n m : Nat} {ρ : Option Nat} {o : Oper} {s : Nat → Value} {w : World} {K : Act → World → Prop} {Q : Exit → Act → World → Prop} {ops : Array Oper}

theorem semAt_any (hd : ∀ c, o.op ≠ .defer c) (e : Operand → Value) : o.semAt ρ e = execOp e o := by
  cases ρ with
  | none => unfold Oper.semAt; cases o.op <;> rfl
  | some l => exact Oper.semAt_some l e o hd

theorem opF_in (hd : ∀ c, o.op ≠ .defer c) (h : opF P o n s w fun v w' => K (mkA n (updS s o.dst v) ds) w') : o.wpIn (Fw ρ) m P (mkA n s ds) w K Q := by
  refine ⟨fun _ _ => trivial, ?_⟩
  show o.uponIn (Fw ρ) m P (mkA n s ds) K Q ((o.semAt ρ (mkA n s ds).eval).run P w)
  rw [semAt_any hd, mkA_eval]
  unfold opF at h
  generalize (execOp (evF n s) o).run P w = r at *
  cases r with
  | ok nx w' =>
    cases nx with
    | value v => simp only [uponF] at h; rw [Oper.uponIn_value, mkA_put]; exact h
    | skip => simp only [uponF] at h; rw [Oper.uponIn_skip, mkA_put]; exact h
    | enter f args =>
      simp only [uponF] at h
      rw [Oper.uponIn_enter]
      refine ⟨fun h => (by simp [Fw, Fence.wide] at h), callsIn_Fw (h.mono ?_)⟩
      rintro e w'' ⟨v, rfl, hk⟩
      show K ((mkA n s ds).put o.dst v) w''
      rw [mkA_put]; exact hk
    | row r args =>
      simp only [uponF] at h
      refine ⟨fun h => (by simp [Fw, Fence.wide] at h), ?_⟩
      intro c cs _
      obtain ⟨v, w'', hk, hs⟩ := h c cs
      exact ⟨v, w'', by show K ((mkA n s ds).put o.dst v) w''; rw [mkA_put]; exact hk, stepsIn_wide.2 hs⟩
    | _ => exact (h : False).elim
  | halt x w' => exact (h : False).elim

def noDefer (l : List Oper) : Bool := l.all fun o => match o.op with | .defer _ => false | _ => true
theorem listF_in : ∀ (l : List Oper) (s : Nat → Value) (w : World), noDefer l = true → listF P ops n (fun s w => Q .normal (mkA n s ds) w) l s w → wpListIn (Fw ρ) m P ops Q l (mkA n s ds) w
  | [], _, _, _, h => h
  | o :: os, s, w, hd, h => by
    have hd1 : ∀ c, o.op ≠ .defer c := by
      intro c e
      unfold noDefer at hd
      simp only [List.all_cons, Bool.and_eq_true, e] at hd
      exact absurd hd.1 (by decide)
    have hd2 : noDefer os = true := by
      unfold noDefer at hd ⊢
      simp only [List.all_cons, Bool.and_eq_true] at hd
      exact hd.2
    unfold listF at h
    unfold wpListIn
    split at h
    · rename_i hw
      rw [if_pos (show Region.wanted o (yielded ops (mkA n s ds).tmps) = true from hw)]
      refine opF_in hd1 ?_
      exact uponF.mono (fun v w' h' => listF_in os _ _ hd2 h') h
    · rename_i hw
      rw [if_neg (show ¬ Region.wanted o (yielded ops (mkA n s ds).tmps) = true from hw), mkA_put]
      exact ⟨fun _ _ => trivial, listF_in os _ _ hd2 h⟩
theorem region_FI {id : Nat} {l : List Oper} (hd : noDefer l = true) (h : listF P l.toArray n (fun s w => Q .normal (mkA n s ds) w) l s w) : (Code.region id l.toArray false).wpIn (Fw ρ) m P Q (mkA n s ds) w :=
  wpIn_region_lit (listF_in l s w hd h)

/-- a call of yield in a region in the order of the text -/
theorem yield_in {ops : Array Oper} {os : List Oper} {l d : Nat} {v : Value} {R : Ending → World → Prop} (hg : o.guard = none) (hd : ∀ c, o.op ≠ .defer c) (hdst : o.dst = some d)
    (hr : (execOp (evF n s) o).run P w = (Instr.yield l #[v]).run P w) (hy : YieldAt Fence.wide 0 P l #[v] w R)
    (hk : ∀ e w', R e w' → ∃ x, e = .returned x ∧ wpListIn (Fw none) 0 P ops Q os (mkA n (updS s (some d) x) ds) w') : wpListIn (Fw none) 0 P ops Q (o :: os) (mkA n s ds) w := by
  obtain ⟨fn, tmps, assign, body, h1, h2⟩ := hy
  unfold wpListIn
  rw [if_pos (by simp [Region.wanted, hg])]
  refine ⟨fun _ _ => trivial, ?_⟩
  show o.uponIn (Fw none) 0 P (mkA n s ds) _ Q ((o.semAt none (mkA n s ds).eval).run P w)
  rw [semAt_any hd, mkA_eval, hr, h1, Oper.uponIn_round]
  refine ⟨fun h => (by simp [Fw, Fence.wide] at h), RoundIn.mono (R := R) ?_ ?_⟩
  · exact h2
  · intro e w' hR
    obtain ⟨x, rfl, hx⟩ := hk e w' hR
    show wpListIn (Fw none) 0 P ops Q os ((mkA n s ds).put o.dst x) w'
    rw [hdst, mkA_put]; exact hx
/-- operations ahead of it -/
theorem listF_then {ops : Array Oper} {l2 : List Oper} (Q : Exit → Act → World → Prop) : ∀ (l1 : List Oper) (s : Nat → Value) (w : World), noDefer l1 = true → listF P ops n (fun s w => wpListIn (Fw none) m P ops Q l2 (mkA n s ds) w) l1 s w → wpListIn (Fw none) m P ops Q (l1 ++ l2) (mkA n s ds) w
  | [], _, _, _, h => h
  | o :: os, s, w, hd, h => by
    have hd1 : ∀ c, o.op ≠ .defer c := by
      intro c e
      unfold noDefer at hd
      simp only [List.all_cons, Bool.and_eq_true, e] at hd
      exact absurd hd.1 (by decide)
    have hd2 : noDefer os = true := by
      unfold noDefer at hd ⊢
      simp only [List.all_cons, Bool.and_eq_true] at hd
      exact hd.2
    unfold listF at h
    show wpListIn (Fw none) m P ops Q (o :: (os ++ l2)) (mkA n s ds) w
    unfold wpListIn
    split at h
    · rename_i hw
      rw [if_pos (show Region.wanted o (yielded ops (mkA n s ds).tmps) = true from hw)]
      refine opF_in hd1 ?_
      exact uponF.mono (fun v w' h' => listF_then Q os _ _ hd2 h') h
    · rename_i hw
      rw [if_neg (show ¬ Region.wanted o (yielded ops (mkA n s ds).tmps) = true from hw), mkA_put]
      exact ⟨fun _ _ => trivial, listF_then Q os _ _ hd2 h⟩
theorem region_yield {id k : Nat} {l : List Oper} (hd : noDefer (l.take k) = true) (h : listF P l.toArray n (fun s w => wpListIn (Fw none) 0 P l.toArray Q (l.drop k) (mkA n s ds) w) (l.take k) s w) : (Code.region id l.toArray false).wp P Q (mkA n s ds) w := by
  refine (wpIn_wide (n := 0)).1 (wpIn_region_lit ?_)
  have := listF_then (m := 0) (ops := l.toArray) (l2 := l.drop k) Q (l.take k) s w hd h
  rwa [List.take_append_drop] at this
end
end

section
theorem LoopAt.at {W W' : World} {l : Nat} {r : Loop} (h : LoopAt W l r) (hb : Below W.heap.size W W') : LoopAt W' l r :=
  ⟨(hb.block _ (Array.getElem?_eq_some_iff.1 h.1).1).trans h.1, (hb.block _ (Array.getElem?_eq_some_iff.1 h.2).1).trans h.2⟩
end
end

section
open Go.RowKit
variable {ds : List Deferred}

theorem cond_E {P : Program} {t : Nat} {x y : Code} {n : Nat} {Q : Exit → Act → World → Prop} {s : Nat → Value} {w : World} {E : Bool} (hc : s t = .bool E) (ht : t < n)
    (h1 : E = true → s t = .bool true → x.wp P Q (mkA n s ds) w) (h2 : E = false → s t = .bool false → y.wp P Q (mkA n s ds) w) : (Code.cond (.tmp t) x y).wp P Q (mkA n s ds) w := by
  cases E with
  | true => exact cond_F true (by simp [ht, hc]) (by simpa using h1 rfl hc)
  | false => exact cond_F false (by simp [ht, hc]) (by simpa using h2 rfl hc)
theorem Cells.newL {w : World} {l : List Value} {T : TypeId} : Cells (w.alloc (.cells l.toArray T)) w.heap.size l := by
  have := Cells.new (w := w) (cs := l.toArray) (T := T) (N := w.heap.size) rfl
  simpa using this
theorem cells_of {w w0 : World} {b : Nat} {l : List Value} (h : w = w0) (k : Cells w0 b l) : Cells w b l := by subst h; exact k
theorem OldB.refl (Bs : List Nat) (w : World) : OldB Bs w w := ⟨rfl, rfl, rfl, Nat.le_refl _, fun _ _ _ => rfl⟩
theorem OldB.nil {Bs : List Nat} {w w' : World} (h : Below w.heap.size w w') : OldB Bs w w' := (OldB.refl Bs w).below h
theorem OldB.toBelow {w w' : World} (h : OldB [] w w') : Below w.heap.size w w' := ⟨h.os, h.tape, h.output, h.size, fun k hk => h.block k hk (by simp)⟩
theorem OldB.lowN {Bs : List Nat} {w w' : World} (h : OldB Bs w w') {N : Nat} (hN : N ≤ w.heap.size) (hB : ∀ b ∈ Bs, N ≤ b) : Below N w w' :=
  ⟨h.os, h.tape, h.output, h.size, fun k hk => h.block k (by omega) (fun hm => by have := hB k hm; omega)⟩
theorem OldB.more {Bs Cs : List Nat} {w0 w w' : World} (h : OldB Bs w0 w) (h' : OldB Cs w w') (hc : ∀ c ∈ Cs, w0.heap.size ≤ c ∨ c ∈ Bs) : OldB Bs w0 w' :=
  ⟨h'.os.trans h.os, h'.tape.trans h.tape, h'.output.trans h.output, Nat.le_trans h.size h'.size, fun k hk hn => by
    refine (h'.block k (Nat.lt_of_lt_of_le hk h.size) (fun hm => ?_)).trans (h.block k hk hn)
    rcases hc k hm with h1 | h1
    · omega
    · exact hn h1⟩
theorem OldB.subset {Bs Cs : List Nat} {w0 w : World} (h : OldB Bs w0 w) (hc : ∀ b ∈ Bs, b ∈ Cs) : OldB Cs w0 w :=
  ⟨h.os, h.tape, h.output, h.size, fun k hk hn => h.block k hk (fun hm => hn (hc k hm))⟩
theorem OldB.set {Bs : List Nat} {w0 w : World} {b o : Nat} {u : Value} (h : OldB Bs w0 w) (hb : b ∈ Bs) : OldB Bs w0 (w.setCell ⟨b, o, none⟩ u) :=
  h.only (Only.set (Only.refl b w)) (.inr hb)
theorem OldB.drewN {Bs : List Nat} {w0 w : World} (h : OldB Bs w0 w) : OldB Bs w0 w.drew := ⟨h.os, h.tape, h.output, h.size, h.block⟩
theorem OldB.unDrew {Bs : List Nat} {w0 w : World} (h : OldB Bs w0.drew w) : OldB Bs w0 w := ⟨h.os, h.tape, h.output, h.size, h.block⟩
theorem OldB.grown {Bs : List Nat} {w0 w w' : World} {v : Value} (h : OldB Bs w0 w) (hg : w.grownBy w' v.ownBlock) (hv : ∀ k, v.ownBlock = some k → w0.heap.size ≤ k ∨ k ∈ Bs) : OldB Bs w0 w' :=
  ⟨hg.os.trans h.os, hg.tape.trans h.tape, hg.output.trans h.output, Nat.le_trans h.size hg.size, fun k hk hn => by
    refine (hg.block k (Nat.lt_of_lt_of_le hk h.size) (fun e => ?_)).trans (h.block k hk hn)
    rcases hv k e.symm with h1 | h1
    · omega
    · exact hn h1⟩
theorem Cells.oldB {w w' : World} {Bs : List Nat} {b : Nat} {l : List Value} (h : Cells w b l) (ho : OldB Bs w w') (hb : b ∉ Bs) : Cells w' b l := h.same (ho.block b h.1 hb) ho.size
theorem Rd.oldB {α : Type} {f : α → List Value} {m : Nat} {w w' : World} {Bs : List Nat} {a : Option Addr} {l : List α} (h : Rd f m w a l) (ho : OldB Bs w w') (hn : ∀ b, a = some b → b.block ∉ Bs) : Rd f m w' a l := by
  rcases h with h | ⟨b, off, ha, hlt, hc⟩
  · exact .inl h
  · exact .inr ⟨b, off, ha, Nat.lt_of_lt_of_le hlt ho.size, fun i x hi j v hj => (cellBk (ho.block b hlt (hn _ ha))).trans (hc i x hi j v hj)⟩
theorem Own.oldB {α : Type} {f : α → List Value} {m : Nat} {T : TypeId} {base : Nat} {w w' : World} {Bs : List Nat} {v : Value} {l : List α} (h : Own f m T base w v l) (ho : OldB Bs w w') (hn : ∀ g, v.ownBlock = some g → g ∉ Bs) : Own f m T base w' v l :=
  h.kept fun g hg => ho.block g (World.ownsRow.lt h g hg).2 (hn g hg)
theorem res_none {P : Program} {fn : Func} {tmps : Array Value} {w : World} (h : fn.results = #[]) : (results fn tmps).run P w = .ok (.tuple #[]) w := res0_F h
theorem res_t {P : Program} {fn : Func} {p : Tmp} {tmps : Array Value} {w : World} {v : Value} (h : fn.results = #[.tmp p]) (e : tmps.getD p undef = v) : (results fn tmps).run P w = .ok v w := by
  simp only [Array.getD_eq_getD_getElem?] at *
  simp only [results, h]
  simp [e]
theorem res_tt {P : Program} {fn : Func} {p p2 : Tmp} {tmps : Array Value} {w : World} {v v2 : Value} (h : fn.results = #[.tmp p, .tmp p2]) (e : tmps.getD p undef = v) (e2 : tmps.getD p2 undef = v2) : (results fn tmps).run P w = .ok (.tuple #[v, v2]) w := by
  simp only [Array.getD_eq_getD_getElem?] at *
  simp only [results, h]
  simp [Sem.run_bind, Result.andThen, e, e2]
theorem res_ttt {P : Program} {fn : Func} {p p2 p3 : Tmp} {tmps : Array Value} {w : World} {v v2 v3 : Value} (h : fn.results = #[.tmp p, .tmp p2, .tmp p3]) (e : tmps.getD p undef = v) (e2 : tmps.getD p2 undef = v2) (e3 : tmps.getD p3 undef = v3) : (results fn tmps).run P w = .ok (.tuple #[v, v2, v3]) w := by
  simp only [Array.getD_eq_getD_getElem?] at *
  simp only [results, h]
  simp [Sem.run_bind, Result.andThen, e, e2, e3]
end

section
open Go.RowKit

section
variable {P : Program} {ops : Array Oper} {n : Nat} {K : (Nat → Value) → World → Prop} {o : Oper} {os : List Oper} {s : Nat → Value} {w w' : World} {v : Value}
theorem pl (hr : listF P ops n K os (updS s o.dst v) w') (hg : o.guard = none := by rfl)
    (h : ∀ K' : Value → World → Prop, K' v w' → opF P o n s w K' := by intro K' hK; unfold opF; go_simp; exact hK) : listF P ops n K (o :: os) s w :=
  listF_step hg fun K' hK => h K' (hK _ _ hr)
theorem py {j d : Nat} {b : Bool} (hr : listF P ops n K os (updS s o.dst v) w') (hg : o.guard = some (j, b) := by rfl) (hd : (ops[j]?).bind (·.dst) = some d := by rfl) (hn : d < n := by decide) (hs : s d = .bool b := by go_simp; done)
    (h : ∀ K' : Value → World → Prop, K' v w' → opF P o n s w K' := by intro K' hK; unfold opF; go_simp; exact hK) : listF P ops n K (o :: os) s w :=
  listF_yes hg hd hn hs fun K' hK => h K' (hK _ _ hr)
theorem pn {j d : Nat} {b : Bool} (b' : Bool) (hr : listF P ops n K os (updS s o.dst undef) w) (hg : o.guard = some (j, b) := by rfl) (hd : (ops[j]?).bind (·.dst) = some d := by rfl) (hn : d < n := by decide) (hs : s d = .bool b' := by go_simp; done)
    (hb : (b' == b) = false := by rfl) : listF P ops n K (o :: os) s w :=
  listF_no hg hd hn hs hb hr
theorem pa {l : List Value} {T : TypeId} (hr : ∀ w' B, B = w.heap.size → Cells w' B l → Below w.heap.size w w' → listF P ops n K os (updS s o.dst (.pointer (some ⟨B, 0, none⟩))) w') (hg : o.guard = none := by rfl)
    (h : ∀ K' : Value → World → Prop, K' (.pointer (some ⟨w.heap.size, 0, none⟩)) (w.alloc (.cells l.toArray T)) → opF P o n s w K' := by intro K' hK; unfold opF; go_simp; exact hK) : listF P ops n K (o :: os) s w :=
  listF_step hg fun K' hK => h K' (hK _ _ (hr _ _ rfl Cells.newL (below_alloc1 _ _)))
theorem pas {l : List Value} {T : TypeId} {k c : Nat} (hr : ∀ w' B, B = w.heap.size → Cells w' B l → Below w.heap.size w w' → listF P ops n K os (updS s o.dst (.slice (some ⟨B, 0, none⟩) k c)) w') (hg : o.guard = none := by rfl)
    (h : ∀ K' : Value → World → Prop, K' (.slice (some ⟨w.heap.size, 0, none⟩) k c) (w.alloc (.cells l.toArray T)) → opF P o n s w K' := by intro K' hK; unfold opF; go_simp; exact hK) : listF P ops n K (o :: os) s w :=
  listF_step hg fun K' hK => h K' (hK _ _ (hr _ _ rfl Cells.newL (below_alloc1 _ _)))
theorem pasy {j d : Nat} {b : Bool} {l : List Value} {T : TypeId} {k c : Nat} (hr : ∀ w' B, B = w.heap.size → Cells w' B l → Below w.heap.size w w' → listF P ops n K os (updS s o.dst (.slice (some ⟨B, 0, none⟩) k c)) w') (hg : o.guard = some (j, b) := by rfl) (hd : (ops[j]?).bind (·.dst) = some d := by rfl) (hn : d < n := by decide) (hs : s d = .bool b := by go_simp; done)
    (h : ∀ K' : Value → World → Prop, K' (.slice (some ⟨w.heap.size, 0, none⟩) k c) (w.alloc (.cells l.toArray T)) → opF P o n s w K' := by intro K' hK; unfold opF; go_simp; exact hK) : listF P ops n K (o :: os) s w :=
  listF_yes hg hd hn hs fun K' hK => h K' (hK _ _ (hr _ _ rfl Cells.newL (below_alloc1 _ _)))
end
section
variable {P : Program} {ops : Array Oper} {n : Nat} {K : (Nat → Value) → Prop} {o : Oper} {os : List Oper} {s : Nat → Value} {W : World} {v : Value}
theorem lq (h2 : listQ P ops n (Below W.heap.size W) K os (updS s o.dst v)) (hg : o.guard = none := by rfl)
    (h1 : ∀ w, Below W.heap.size W w → Oper.quietUpon P (Below W.heap.size W) w v ((execOp (evF n s) o).run P w) := by intro wq hwq; obtain ⟨hcq, hfq⟩ := bcell hwq; go_simp; (first | rfl | exact ⟨rfl, rfl⟩ | (refine ⟨?_, ?_⟩ <;> rfl))) : listQ P ops n (Below W.heap.size W) K (o :: os) s :=
  listQ_step hg h1 h2
end
section
variable {P : Program} {kk : List OK} {ops : Array Oper} {n : Nat} {w0 : World} {Bs rs : List Nat} {K : (Nat → Value) → World → Prop} {i : Nat} {o : Oper} {os : List Oper} {ks : List OK} {v : Ad → Value} {vs : List (Ad → Value)} {c : Ad → List Value} {cs : List (Ad → List Value)} {s : Ad → Nat → Value} {d : Ad → Nat → List Value}
theorem rq (h2 : walkR P kk ops n w0.drew Bs rs K (i + 1) os ks vs cs (fun X => updS (s X) o.dst (v X)) d) (hg : o.guard = none := by rfl)
    (h1 : ∀ X, Good kk ops.size w0.drew Bs X → ∀ w, OldB Bs w0.drew w → quietB P w (v X) ((execOp (evF n (s X)) o).run P w) := by intro X hX wq hwq; (first | obtain ⟨hcq, hfq⟩ := OldB.b0 hwq | obtain ⟨hcq, hfq⟩ := OldB.b1 hwq | obtain ⟨hcq, hfq⟩ := OldB.b2 hwq | obtain ⟨hcq, hfq⟩ := OldB.b3 hwq); go_simp; (first | rfl | exact ⟨rfl, rfl⟩ | (refine ⟨?_, ?_⟩ <;> rfl))) : walkR P kk ops n w0.drew Bs rs K i (o :: os) (.q [] :: ks) (v :: vs) (c :: cs) s d :=
  walkR_q hg (fun X hX w hw _ => h1 X hX w hw) h2
theorem rqy {j t : Nat} {b : Bool} (h2 : walkR P kk ops n w0.drew Bs rs K (i + 1) os ks vs cs (fun X => updS (s X) o.dst (v X)) d) (hg : o.guard = some (j, b) := by rfl) (hd : (ops[j]?).bind (·.dst) = some t := by rfl) (hn : t < n := by decide)
    (hs : ∀ X, Good kk ops.size w0.drew Bs X → s X t = .bool b := by intro X hX; go_simp)
    (h1 : ∀ X, Good kk ops.size w0.drew Bs X → ∀ w, OldB Bs w0.drew w → quietB P w (v X) ((execOp (evF n (s X)) o).run P w) := by intro X hX wq hwq; (first | obtain ⟨hcq, hfq⟩ := OldB.b0 hwq | obtain ⟨hcq, hfq⟩ := OldB.b1 hwq | obtain ⟨hcq, hfq⟩ := OldB.b2 hwq | obtain ⟨hcq, hfq⟩ := OldB.b3 hwq); go_simp; (first | rfl | exact ⟨rfl, rfl⟩ | (refine ⟨?_, ?_⟩ <;> rfl))) : walkR P kk ops n w0.drew Bs rs K i (o :: os) (.q [] :: ks) (v :: vs) (c :: cs) s d :=
  walkR_qg hg hd hn hs (fun X hX w hw _ => h1 X hX w hw) h2
theorem dR {len : Nat} {M : Array Nat} (h2 : depR len M (i + 1) vs cs) (h : ∀ X X' : Ad, v X = v X' ∧ c X = c X' := by intro X X'; exact ⟨rfl, rfl⟩) : depR len M i (v :: vs) (c :: cs) := depR_cons (fun X X' _ => h X X') h2
end
theorem cB {P : Program} {f : FuncId} {args : Array Value} {w : World} {v : Value} (h : Calls P f args w fun e w' => e = .returned v ∧ w = w') : Calls P f args w fun e w' => e = .returned v ∧ Below w.heap.size w w' := h.mono fun e w' ⟨a, b⟩ => ⟨a, b ▸ Below.refl _ _⟩
/-- the value of a slot in a new frame: kept, and set -/
theorem gs {s' S S0 : Nat → Value} (t : Nat) {v : Value} (hs : s' = S) (h0 : S0 t = v) (h : S t = S0 t := by first | (simp only [updS_some, updS_none, Nat.reduceEqDiff, ↓reduceIte]; done) | rfl) : s' t = v := by rw [hs, h]; exact h0
theorem gu {s' S : Nat → Value} (t : Nat) {v : Value} (hs : s' = S) (h : S t = v := by (simp only [updS_some, updS_none, Nat.reduceEqDiff, ↓reduceIte]); rfl) : s' t = v := by rw [hs, h]
theorem boolG {v : Value} {E : Bool} {G : Prop} (h : v = .bool E) (h1 : v = .bool true → E = true → G) (h2 : v = .bool false → E = false → G) : G := by cases E <;> simp_all
theorem OldB.gB {Bs : List Nat} {w0 w : World} {B : Nat} (h : OldB Bs w0 w) (hB : B = w.heap.size) : w0.heap.size ≤ B := by have := h.size; omega
theorem oB {a n B : Nat} (h : a < n) (hB : B = n) : a < B := by omega
theorem eB {n B : Nat} (hB : B = n) : n ≤ B := by omega
theorem oldset {Bs : List Nat} {w0 w wX : World} (h : w = wX) (ho : OldB Bs w0 wX := by repeat (first | exact OldB.refl _ _ | refine OldB.set ?_ (by simp))) : OldB Bs w0 w := by rw [h]; exact ho
def isStop : Code → Bool
  | .region .. => true
  | .cond .. => true
  | _ => false
theorem stp {P : Program} {c : Code} {Q : Exit → Act → World → Prop} {a : Act} {w : World} (h : c.wp P Q a w) (_ : isStop c = true := by rfl) : c.wp P Q a w := h
theorem cond_t {P : Program} {c : Operand} {x y : Code} {n : Nat} {ds : List Deferred} {Q : Exit → Act → World → Prop} {s : Nat → Value} {w : World} (h : x.wp P Q (mkA n s ds) w) (hc : evF n s c = .bool true := by go_simp; done) : (Code.cond c x y).wp P Q (mkA n s ds) w :=
  cond_F true hc (by simpa using h)
theorem cond_f {P : Program} {c : Operand} {x y : Code} {n : Nat} {ds : List Deferred} {Q : Exit → Act → World → Prop} {s : Nat → Value} {w : World} (h : y.wp P Q (mkA n s ds) w) (hc : evF n s c = .bool false := by go_simp; done) : (Code.cond c x y).wp P Q (mkA n s ds) w :=
  cond_F false hc (by simpa using h)
end

section
open Go.RowKit

theorem panic_in {P : Program} {n m : Nat} {o : Oper} {os : List Oper} {ops : Array Oper} {s : Nat → Value} {w w' : World} {Q : Exit → Act → World → Prop} {ds : List Deferred} {v : Value}
    (hr : (execOp (evF n s) o).run P w = .halt (.panic v) w') (h : Q (.panic [{ v, recovered := false }]) (mkA n s ds) w') (hg : o.guard = none := by rfl) (hd : ∀ c, o.op ≠ .defer c := by intro c h; cases h) : wpListIn (Fw none) m P ops Q (o :: os) (mkA n s ds) w := by
  unfold wpListIn
  rw [if_pos (by simp [Region.wanted, hg])]
  refine ⟨fun _ _ => trivial, ?_⟩
  show o.uponIn (Fw none) m P (mkA n s ds) _ Q ((o.semAt none (mkA n s ds).eval).run P w)
  rw [semAt_any hd, mkA_eval, hr]
  exact h
theorem defer_in {P : Program} {n m : Nat} {o : Oper} {os : List Oper} {ops : Array Oper} {s : Nat → Value} {w w' : World} {Q : Exit → Act → World → Prop} {ds : List Deferred} {d : Deferred}
    (hr : (o.semAt none (evF n s)).run P w = .ok (.defer d) w') (h : wpListIn (Fw none) m P ops Q os (mkA n s (d :: ds)) w') (hg : o.guard = none := by rfl) (hdst : o.dst = none := by rfl) : wpListIn (Fw none) m P ops Q (o :: os) (mkA n s ds) w := by
  unfold wpListIn
  rw [if_pos (by simp [Region.wanted, hg])]
  refine ⟨fun _ _ => trivial, ?_⟩
  show o.uponIn (Fw none) m P (mkA n s ds) _ Q ((o.semAt none (mkA n s ds).eval).run P w)
  rw [mkA_eval, hr, Oper.uponIn_defer, hdst]
  exact h

/- inside a round: a region that draws its order -/
section
variable {P : Program} {n m : Nat} {ρ : Option Nat} {ops : Array Oper} {Q : Exit → Act → World → Prop}
theorem opwp_in {o : Oper} {a : Act} {w : World} {K : Act → World → Prop} (hd : ∀ c, o.op ≠ .defer c) (h : o.wp P a w K Q) : o.wpIn (Fw ρ) m P a w K Q := by
  refine ⟨fun _ _ => trivial, ?_⟩
  show o.uponIn (Fw ρ) m P a K Q ((o.semAt ρ a.eval).run P w)
  rw [semAt_any hd]
  unfold Oper.wp at h
  generalize (execOp a.eval o).run P w = r at *
  cases r with
  | ok nx w' =>
    cases nx with
    | value v => simp only [Oper.upon] at h; rw [Oper.uponIn_value]; exact h
    | skip => simp only [Oper.upon] at h; rw [Oper.uponIn_skip]; exact h
    | enter f args =>
      simp only [Oper.upon] at h
      rw [Oper.uponIn_enter]
      exact ⟨fun h => (by simp [Fw, Fence.wide] at h), callsIn_Fw h⟩
    | row r args =>
      simp only [Oper.upon] at h
      refine ⟨fun h => (by simp [Fw, Fence.wide] at h), ?_⟩
      intro c cs _
      obtain ⟨v, w'', hk, hs⟩ := h c cs
      exact ⟨v, w'', hk, stepsIn_wide.2 hs⟩
    | defer d => simp only [Oper.upon] at h; rw [Oper.uponIn_defer]; exact h
    | _ => exact (h : False).elim
  | halt x w' =>
    cases x with
    | panic v => exact h
    | _ => exact (h : False).elim
theorem any_in (hd : ∀ (i : Nat) (o : Oper), ops[i]? = some o → ∀ c, o.op ≠ .defer c) (hQ : ¬ LetsOut Q) : ∀ (fuel : Nat) (listed : Array Bool) (a : Act) (w : World), wpAny P .any ops Q fuel listed a w → wpAnyIn (Fw ρ) m P .any ops Q fuel listed a w
  | 0, _, _, _, h => h
  | fuel + 1, listed, a, w, h => by
    refine ⟨h.1, fun i hi => ?_⟩
    have h1 := h.2 i hi
    unfold wpOp at h1
    unfold wpOpIn
    cases ho : ops[i]? with
    | none => rw [ho] at h1; exact any_in hd hQ fuel _ a w h1
    | some o =>
      rw [ho] at h1
      simp only at h1 ⊢
      split
      · rename_i hw
        rw [if_pos hw] at h1
        rcases h1 with h1 | ⟨_, h2⟩
        · exact opwp_in (hd i o ho) (Oper.wp_mono (fun a' w' h' => any_in hd hQ fuel _ a' w' h') h1)
        · exact absurd h2 hQ
      · rename_i hw
        rw [if_neg hw] at h1
        exact ⟨fun _ _ => trivial, any_in hd hQ fuel _ _ w h1⟩
end
section
variable {ds : List Deferred}
theorem regionI_any {P : Program} {l : List Oper} {n : Nat} {Q : Exit → Act → World → Prop} {s : Nat → Value} {w : World} (J : (Nat → Bool) → (Nat → Value) → World → Prop)
    (hm : P.follows .mixedOrders = true) (hb : backB l.toArray = true) (hd : dstB l.toArray (List.range n) = true)
    (h0 : J (fun _ => false) (fun d => if d < n then s d else undef) w.drew)
    (he : ∀ s w, J (fun j => decide (j < l.length)) s w → Q .normal (mkA n s ds) w)
    (hs : invF P l.toArray n J 0 l) : wpAny P .any l.toArray Q l.toArray.size (Array.replicate l.toArray.size false) (mkA n s ds) w.drew := by
  have hset : ∀ s', setAll (mkA n s ds) (List.range n) s' = mkA n s' ds := by
    intro s'
    apply Act.ext'
    · apply Array.ext_getElem?
      intro k
      (try simp only [mkA_tmps])
      rw [setAll_get]; show (if k ∈ List.range n ∧ k < (tmA n s).size then some (s' k) else (tmA n s)[k]?) = (tmA n s')[k]?; rw [mkA_get, mkA_get]
      have hsz : (tmA n s).size = n := by simp [tmA]
      rw [hsz]
      by_cases hk : k < n
      · simp [hk]
      · simp [hk]
    · rw [setAll_defers]; rfl
  have hs' := invF_steps (s0 := s) (ds := ds) (Q := Q) (P := P) l 0 ?_ hs
  · have e0 : (fun d => (tmA n s).getD d undef) = fun d => if d < n then s d else undef := by
      funext d
      rw [Array.getD_eq_getD_getElem?, mkA_get]; split <;> rfl
    have := inv_any (P := P) (ops := l.toArray) (Q := Q) (a0 := mkA n s ds) (ds := List.range n) (J := J) hb hd (by simpa using hs') (by
      intro s' w' hj; rw [hset]; exact he s' w' (by simpa using hj)) l.toArray.size (Array.replicate l.toArray.size false) (fun d => (tmA n s).getD d undef) w.drew (by simp)
      (by
        have : (fun j => (Array.replicate l.toArray.size false).getD j false) = fun _ => false := by
          funext j
          simp only [Array.getD_eq_getD_getElem?, Array.getElem?_replicate]
          split <;> rfl
        rw [this, e0]; exact h0)
      (.inr (Nat.le_trans List.countP_le_length (by simp)))
    have hself : setAll (mkA n s ds) (List.range n) (fun d => (tmA n s).getD d undef) = mkA n s ds := setAll_self (mkA n s ds) (List.range n)
    rw [hself] at this
    exact this
  · intro o ho d hdst
    unfold dstB at hd
    rw [Array.all_eq_true] at hd
    obtain ⟨i, hi, rfl⟩ := List.mem_iff_getElem.1 ho
    have := hd i (by simpa using hi)
    simp only [List.getElem_toArray, hdst] at this
    simpa using this

theorem regionI_FI {P : Program} {id m : Nat} {ρ : Option Nat} {l : List Oper} {n : Nat} {Q : Exit → Act → World → Prop} {s : Nat → Value} {w : World} (J : (Nat → Bool) → (Nat → Value) → World → Prop) (hq : ¬ LetsOut Q) (hnd : noDefer l = true)
    (hm : P.follows .mixedOrders = true) (hb : backB l.toArray = true) (hd : dstB l.toArray (List.range n) = true)
    (h0 : J (fun _ => false) (fun d => if d < n then s d else undef) w.drew)
    (he : ∀ s w, J (fun j => decide (j < l.length)) s w → Q .normal (mkA n s ds) w)
    (hs : invF P l.toArray n J 0 l) : (Code.region id l.toArray true).wpIn (Fw ρ) m P Q (mkA n s ds) w := by
  refine wpIn_region_any hm (any_in ?_ hq _ _ _ _ (regionI_any J hm hb hd h0 he hs))
  intro i o ho c hc
  unfold noDefer at hnd
  rw [List.all_eq_true] at hnd
  have hmem : o ∈ l := by
    rw [List.getElem?_toArray] at ho
    exact List.mem_of_getElem? ho
  have := hnd o hmem
  rw [hc] at this
  exact absurd this (by simp)
end

/- the marks of ranges among the deferred calls -/
def marks (Ds : List Nat) (d0 : List Deferred) : List Deferred := Ds.map (fun D => { target := .collected D, args := #[] }) ++ d0
def shut : List Nat → World → World
  | [], w => w
  | D :: Ds, w => shut Ds (w.putObj D (.deferred none))
theorem leave_marks {P : Program} {fn : Func} {tmps : Array Value} {R : Ending → World → Prop} {u : FrameMode} {d0 : List Deferred} (hu : u ≠ .run) : ∀ (Ds : List Nat) (w : World), (∀ D ∈ Ds, w.heap[D]? = some (.deferred (some []))) → Ds.Nodup →
    LeavesInM Fence.wide 0 P fn tmps R d0 u (shut Ds w) → LeavesInM Fence.wide 0 P fn tmps R (marks Ds d0) u w
  | [], _, _, _, h => h
  | D :: Ds, w, hD, hn, h => by
    obtain ⟨hn1, hn2⟩ := List.nodup_cons.1 hn
    refine ⟨hu, .inl ⟨D, _, rfl, run_takeDeferred (hD D (by simp)), leave_marks hu Ds _ ?_ hn2 h⟩⟩
    intro E hE
    have hne : E ≠ D := fun e => hn1 (by rw [← e]; exact hE)
    exact (World.putObj_heap_other hne).trans (hD E (List.mem_cons_of_mem _ hE))
theorem shut_block : ∀ (Ds : List Nat) (w : World) (k : Nat), k ∉ Ds → (shut Ds w).heap[k]? = w.heap[k]?
  | [], _, _, _ => rfl
  | D :: Ds, w, k, h => by
    have h1 : k ≠ D := fun e => h (by simp [e])
    exact (shut_block Ds _ k (fun hm => h (List.mem_cons_of_mem _ hm))).trans (World.putObj_heap_other h1)
theorem shut_size : ∀ (Ds : List Nat) (w : World), (shut Ds w).heap.size = w.heap.size
  | [], _ => rfl
  | D :: Ds, w => (shut_size Ds _).trans (by rw [World.putObj_size])
theorem Cells.shut {w : World} {b : Nat} {l : List Value} (h : Cells w b l) {Ds : List Nat} (hn : b ∉ Ds) : Cells (shut Ds w) b l := h.kept (shut_block Ds w b hn) (by rw [shut_size]; exact Nat.le_refl _)
end

section
open Go.RowKit

section
variable {P : Program} (w : World)
end

section
variable {P : Program} {o : Oper} {n d : Nat} {s : Nat → Value} {w : World} {K' : Value → World → Prop} {α : Type} {f : α → List Value} {m : Nat}
end
end


end Go.Proofs.YtleknidlgmmgbaaGreat
