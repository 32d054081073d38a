/- What a walk that a program prints leans on: tests, frames, what is kept where some blocks are written. -/
import Derived.Test.YtndcmmghgljinaaG3
set_option linter.all false
namespace Go.Proofs.Ytndcmmghgljinaa
open Go.RowKit
variable {ds : List Deferred}

theorem boolE {v : Value} {E : Bool} (h : v = .bool E) : (v = .bool true ∧ E = true) ∨ (v = .bool false ∧ E = false) := by cases E <;> simp_all
theorem cond_E {P : Program} {t : Nat} {x y : Code} {n : Nat} {Q : Exit → Act → World → Prop} {s : Nat → Value} {w : World} {E : Bool} (hc : s t = .bool E) (ht : t < n)
    (h1 : E = true → s t = .bool true → x.wp P Q (mkA n s ds) w) (h2 : E = false → s t = .bool false → y.wp P Q (mkA n s ds) w) : (Code.cond (.tmp t) x y).wp P Q (mkA n s ds) w := by
  cases E with
  | true => exact cond_F true (by simp [ht, hc]) (by simpa using h1 rfl hc)
  | false => exact cond_F false (by simp [ht, hc]) (by simpa using h2 rfl hc)
theorem cond_T {P : Program} {t : Nat} {x y : Code} {n : Nat} {Q : Exit → Act → World → Prop} {s : Nat → Value} {w : World} (hc : s t = .bool true) (ht : t < n) (h : x.wp P Q (mkA n s ds) w) : (Code.cond (.tmp t) x y).wp P Q (mkA n s ds) w :=
  cond_F true (by simp [ht, hc]) (by simpa using h)
theorem cond_N {P : Program} {t : Nat} {x y : Code} {n : Nat} {Q : Exit → Act → World → Prop} {s : Nat → Value} {w : World} (hc : s t = .bool false) (ht : t < n) (h : y.wp P Q (mkA n s ds) w) : (Code.cond (.tmp t) x y).wp P Q (mkA n s ds) w :=
  cond_F false (by simp [ht, hc]) (by simpa using h)
theorem ret_abs {P : Program} {fn : Func} {R : Ending → World → Prop} {e : Exit} {n : Nat} {S : Nat → Value} {w : World} (h : ∀ s', s' = S → bodyPost P fn R e (mkA n s' []) w) : bodyPost P fn R e (mkA n S []) w := h S rfl

theorem Cells.newL {w : World} {l : List Value} {T : TypeId} : Cells (w.alloc (.cells l.toArray T)) w.heap.size l := by
  have := Cells.new (w := w) (cs := l.toArray) (T := T) (N := w.heap.size) rfl
  simpa using this
theorem cells_new {w w0 : World} {l : List Value} {T : TypeId} (h : w = w0.alloc (.cells l.toArray T)) : Cells w w0.heap.size l := by subst h; exact Cells.newL
theorem cells_of {w w0 : World} {b : Nat} {l : List Value} (h : w = w0) (k : Cells w0 b l) : Cells w b l := by subst h; exact k
theorem OldB.refl (Bs : List Nat) (w : World) : OldB Bs w w := ⟨rfl, rfl, rfl, Nat.le_refl _, fun _ _ _ => rfl⟩
theorem OldB.nil {Bs : List Nat} {w w' : World} (h : Below w.heap.size w w') : OldB Bs w w' := (OldB.refl Bs w).below h
theorem OldB.toBelow {w w' : World} (h : OldB [] w w') : Below w.heap.size w w' := ⟨h.os, h.tape, h.output, h.size, fun k hk => h.block k hk (by simp)⟩
theorem OldB.lowN {Bs : List Nat} {w w' : World} (h : OldB Bs w w') {N : Nat} (hN : N ≤ w.heap.size) (hB : ∀ b ∈ Bs, N ≤ b) : Below N w w' :=
  ⟨h.os, h.tape, h.output, h.size, fun k hk => h.block k (by omega) (fun hm => by have := hB k hm; omega)⟩
theorem OldB.more {Bs Cs : List Nat} {w0 w w' : World} (h : OldB Bs w0 w) (h' : OldB Cs w w') (hc : ∀ c ∈ Cs, w0.heap.size ≤ c ∨ c ∈ Bs) : OldB Bs w0 w' :=
  ⟨h'.os.trans h.os, h'.tape.trans h.tape, h'.output.trans h.output, Nat.le_trans h.size h'.size, fun k hk hn => by
    refine (h'.block k (Nat.lt_of_lt_of_le hk h.size) (fun hm => ?_)).trans (h.block k hk hn)
    rcases hc k hm with h1 | h1
    · omega
    · exact hn h1⟩
theorem OldB.subset {Bs Cs : List Nat} {w0 w : World} (h : OldB Bs w0 w) (hc : ∀ b ∈ Bs, b ∈ Cs) : OldB Cs w0 w :=
  ⟨h.os, h.tape, h.output, h.size, fun k hk hn => h.block k hk (fun hm => hn (hc k hm))⟩
theorem OldB.set {Bs : List Nat} {w0 w : World} {b o : Nat} {u : Value} (h : OldB Bs w0 w) (hb : b ∈ Bs) : OldB Bs w0 (w.setCell ⟨b, o, none⟩ u) :=
  h.only (Only.set (Only.refl b w)) (.inr hb)
theorem OldB.drewN {Bs : List Nat} {w0 w : World} (h : OldB Bs w0 w) : OldB Bs w0 w.drew := ⟨h.os, h.tape, h.output, h.size, h.block⟩
theorem OldB.unDrew {Bs : List Nat} {w0 w : World} (h : OldB Bs w0.drew w) : OldB Bs w0 w := ⟨h.os, h.tape, h.output, h.size, h.block⟩
theorem OldB.grown {Bs : List Nat} {w0 w w' : World} {v : Value} (h : OldB Bs w0 w) (hg : w.grownBy w' v.ownBlock) (hv : ∀ k, v.ownBlock = some k → w0.heap.size ≤ k ∨ k ∈ Bs) : OldB Bs w0 w' :=
  ⟨hg.os.trans h.os, hg.tape.trans h.tape, hg.output.trans h.output, Nat.le_trans h.size hg.size, fun k hk hn => by
    refine (hg.block k (Nat.lt_of_lt_of_le hk h.size) (fun e => ?_)).trans (h.block k hk hn)
    rcases hv k e.symm with h1 | h1
    · omega
    · exact hn h1⟩
theorem Cells.oldB {w w' : World} {Bs : List Nat} {b : Nat} {l : List Value} (h : Cells w b l) (ho : OldB Bs w w') (hb : b ∉ Bs) : Cells w' b l := h.same (ho.block b h.1 hb) ho.size
theorem Rd.oldB {α : Type} {f : α → List Value} {m : Nat} {w w' : World} {Bs : List Nat} {a : Option Addr} {l : List α} (h : Rd f m w a l) (ho : OldB Bs w w') (hn : ∀ b, a = some b → b.block ∉ Bs) : Rd f m w' a l := by
  rcases h with h | ⟨b, off, ha, hlt, hc⟩
  · exact .inl h
  · exact .inr ⟨b, off, ha, Nat.lt_of_lt_of_le hlt ho.size, fun i x hi j v hj => (cellBk (ho.block b hlt (hn _ ha))).trans (hc i x hi j v hj)⟩
theorem Own.oldB {α : Type} {f : α → List Value} {m : Nat} {T : TypeId} {base : Nat} {w w' : World} {Bs : List Nat} {v : Value} {l : List α} (h : Own f m T base w v l) (ho : OldB Bs w w') (hn : ∀ g, v.ownBlock = some g → g ∉ Bs) : Own f m T base w' v l :=
  h.kept fun g hg => ho.block g (World.ownsRow.lt h g hg).2 (hn g hg)
theorem Own.oldLow {α : Type} {f : α → List Value} {m : Nat} {T : TypeId} {base : Nat} {w w' : World} {Bs : List Nat} {v : Value} {l : List α} (h : Own f m T base w v l) (ho : OldB Bs w w') (hn : ∀ b ∈ Bs, b < base) : Own f m T base w' v l :=
  h.oldB ho fun g hg hm => by have := (World.ownsRow.lt h g hg).1; have := hn g hm; omega

theorem res_none {P : Program} {fn : Func} {tmps : Array Value} {w : World} (h : fn.results = #[]) : (results fn tmps).run P w = .ok (.tuple #[]) w := res0_F h
theorem res_t {P : Program} {fn : Func} {p : Tmp} {tmps : Array Value} {w : World} {v : Value} (h : fn.results = #[.tmp p]) (e : tmps.getD p undef = v) : (results fn tmps).run P w = .ok v w := by
  simp only [Array.getD_eq_getD_getElem?] at *
  simp only [results, h]
  simp [e]
theorem res_tt {P : Program} {fn : Func} {p p2 : Tmp} {tmps : Array Value} {w : World} {v v2 : Value} (h : fn.results = #[.tmp p, .tmp p2]) (e : tmps.getD p undef = v) (e2 : tmps.getD p2 undef = v2) : (results fn tmps).run P w = .ok (.tuple #[v, v2]) w := by
  simp only [Array.getD_eq_getD_getElem?] at *
  simp only [results, h]
  simp [Sem.run_bind, Result.andThen, e, e2]
theorem res_ttt {P : Program} {fn : Func} {p p2 p3 : Tmp} {tmps : Array Value} {w : World} {v v2 v3 : Value} (h : fn.results = #[.tmp p, .tmp p2, .tmp p3]) (e : tmps.getD p undef = v) (e2 : tmps.getD p2 undef = v2) (e3 : tmps.getD p3 undef = v3) : (results fn tmps).run P w = .ok (.tuple #[v, v2, v3]) w := by
  simp only [Array.getD_eq_getD_getElem?] at *
  simp only [results, h]
  simp [Sem.run_bind, Result.andThen, e, e2, e3]
theorem res_tttt {P : Program} {fn : Func} {p p2 p3 p4 : Tmp} {tmps : Array Value} {w : World} {v v2 v3 v4 : Value} (h : fn.results = #[.tmp p, .tmp p2, .tmp p3, .tmp p4]) (e : tmps.getD p undef = v) (e2 : tmps.getD p2 undef = v2) (e3 : tmps.getD p3 undef = v3) (e4 : tmps.getD p4 undef = v4) : (results fn tmps).run P w = .ok (.tuple #[v, v2, v3, v4]) w := by
  simp only [Array.getD_eq_getD_getElem?] at *
  simp only [results, h]
  simp [Sem.run_bind, Result.andThen, e, e2, e3, e4]
theorem res_ctt {P : Program} {fn : Func} {p u u2 : Tmp} {ty : TypeId} (h : fn.results = #[.cell p ty, .tmp u, .tmp u2]) {tmps : Array Value} {w : World} {ad : Addr} {v x x2 : Value} (e : tmps.getD p undef = .pointer (some ad)) (l : (loadVar ty ad).run P w = .ok v w) (e2 : tmps.getD u undef = x) (e3 : tmps.getD u2 undef = x2) :
    (results fn tmps).run P w = .ok (.tuple #[v, x, x2]) w := by
  simp only [Array.getD_eq_getD_getElem?] at *
  simp only [results, h]
  simp [Sem.run_bind, Result.andThen, e, asAddr, l, e2, e3]
theorem res_tc {P : Program} {fn : Func} {p u : Tmp} {ty : TypeId} (h : fn.results = #[.tmp u, .cell p ty]) {tmps : Array Value} {w : World} {ad : Addr} {v x : Value} (e2 : tmps.getD u undef = x) (e : tmps.getD p undef = .pointer (some ad)) (l : (loadVar ty ad).run P w = .ok v w) :
    (results fn tmps).run P w = .ok (.tuple #[x, v]) w := by
  simp only [Array.getD_eq_getD_getElem?] at *
  simp only [results, h]
  simp [Sem.run_bind, Result.andThen, e, asAddr, l, e2]

end Go.Proofs.Ytndcmmghgljinaa
