/- A region that draws its order, walked in the order of the text: what each operation makes is told by an entry on its result. -/
import Derived.Test.YtigehmghcafblaaGreatlzG3
set_option linter.all false
namespace Go.Proofs.YtigehmghcafblaaGreat

section
set_option linter.all false
open Go.RowKit
variable {ds : List Deferred}

theorem boolE {v : Value} {E : Bool} (h : v = .bool E) : (v = .bool true ∧ E = true) ∨ (v = .bool false ∧ E = false) := by cases E <;> simp_all
theorem cond_E {P : Program} {t : Nat} {x y : Code} {n : Nat} {Q : Exit → Act → World → Prop} {s : Nat → Value} {w : World} {E : Bool} (hc : s t = .bool E) (ht : t < n)
    (h1 : E = true → s t = .bool true → x.wp P Q (mkA n s ds) w) (h2 : E = false → s t = .bool false → y.wp P Q (mkA n s ds) w) : (Code.cond (.tmp t) x y).wp P Q (mkA n s ds) w := by
  cases E with
  | true => exact cond_F true (by simp [ht, hc]) (by simpa using h1 rfl hc)
  | false => exact cond_F false (by simp [ht, hc]) (by simpa using h2 rfl hc)
theorem cond_T {P : Program} {t : Nat} {x y : Code} {n : Nat} {Q : Exit → Act → World → Prop} {s : Nat → Value} {w : World} (hc : s t = .bool true) (ht : t < n) (h : x.wp P Q (mkA n s ds) w) : (Code.cond (.tmp t) x y).wp P Q (mkA n s ds) w :=
  cond_F true (by simp [ht, hc]) (by simpa using h)
theorem cond_N {P : Program} {t : Nat} {x y : Code} {n : Nat} {Q : Exit → Act → World → Prop} {s : Nat → Value} {w : World} (hc : s t = .bool false) (ht : t < n) (h : y.wp P Q (mkA n s ds) w) : (Code.cond (.tmp t) x y).wp P Q (mkA n s ds) w :=
  cond_F false (by simp [ht, hc]) (by simpa using h)
theorem ret_abs {P : Program} {fn : Func} {R : Ending → World → Prop} {e : Exit} {n : Nat} {S : Nat → Value} {w : World} (h : ∀ s', s' = S → bodyPost P fn R e (mkA n s' []) w) : bodyPost P fn R e (mkA n S []) w := h S rfl

theorem Cells.newL {w : World} {l : List Value} {T : TypeId} : Cells (w.alloc (.cells l.toArray T)) w.heap.size l := by
  have := Cells.new (w := w) (cs := l.toArray) (T := T) (N := w.heap.size) rfl
  simpa using this
theorem cells_new {w w0 : World} {l : List Value} {T : TypeId} (h : w = w0.alloc (.cells l.toArray T)) : Cells w w0.heap.size l := by subst h; exact Cells.newL
theorem cells_of {w w0 : World} {b : Nat} {l : List Value} (h : w = w0) (k : Cells w0 b l) : Cells w b l := by subst h; exact k
theorem OldB.refl (Bs : List Nat) (w : World) : OldB Bs w w := ⟨rfl, rfl, rfl, Nat.le_refl _, fun _ _ _ => rfl⟩
theorem OldB.nil {Bs : List Nat} {w w' : World} (h : Below w.heap.size w w') : OldB Bs w w' := (OldB.refl Bs w).below h
theorem OldB.toBelow {w w' : World} (h : OldB [] w w') : Below w.heap.size w w' := ⟨h.os, h.tape, h.output, h.size, fun k hk => h.block k hk (by simp)⟩
theorem OldB.lowN {Bs : List Nat} {w w' : World} (h : OldB Bs w w') {N : Nat} (hN : N ≤ w.heap.size) (hB : ∀ b ∈ Bs, N ≤ b) : Below N w w' :=
  ⟨h.os, h.tape, h.output, h.size, fun k hk => h.block k (by omega) (fun hm => by have := hB k hm; omega)⟩
theorem OldB.more {Bs Cs : List Nat} {w0 w w' : World} (h : OldB Bs w0 w) (h' : OldB Cs w w') (hc : ∀ c ∈ Cs, w0.heap.size ≤ c ∨ c ∈ Bs) : OldB Bs w0 w' :=
  ⟨h'.os.trans h.os, h'.tape.trans h.tape, h'.output.trans h.output, Nat.le_trans h.size h'.size, fun k hk hn => by
    refine (h'.block k (Nat.lt_of_lt_of_le hk h.size) (fun hm => ?_)).trans (h.block k hk hn)
    rcases hc k hm with h1 | h1
    · omega
    · exact hn h1⟩
theorem OldB.subset {Bs Cs : List Nat} {w0 w : World} (h : OldB Bs w0 w) (hc : ∀ b ∈ Bs, b ∈ Cs) : OldB Cs w0 w :=
  ⟨h.os, h.tape, h.output, h.size, fun k hk hn => h.block k hk (fun hm => hn (hc k hm))⟩
theorem OldB.set {Bs : List Nat} {w0 w : World} {b o : Nat} {u : Value} (h : OldB Bs w0 w) (hb : b ∈ Bs) : OldB Bs w0 (w.setCell ⟨b, o, none⟩ u) :=
  h.only (Only.set (Only.refl b w)) (.inr hb)
theorem OldB.drewN {Bs : List Nat} {w0 w : World} (h : OldB Bs w0 w) : OldB Bs w0 w.drew := ⟨h.os, h.tape, h.output, h.size, h.block⟩
theorem OldB.unDrew {Bs : List Nat} {w0 w : World} (h : OldB Bs w0.drew w) : OldB Bs w0 w := ⟨h.os, h.tape, h.output, h.size, h.block⟩
theorem OldB.grown {Bs : List Nat} {w0 w w' : World} {v : Value} (h : OldB Bs w0 w) (hg : w.grownBy w' v.ownBlock) (hv : ∀ k, v.ownBlock = some k → w0.heap.size ≤ k ∨ k ∈ Bs) : OldB Bs w0 w' :=
  ⟨hg.os.trans h.os, hg.tape.trans h.tape, hg.output.trans h.output, Nat.le_trans h.size hg.size, fun k hk hn => by
    refine (hg.block k (Nat.lt_of_lt_of_le hk h.size) (fun e => ?_)).trans (h.block k hk hn)
    rcases hv k e.symm with h1 | h1
    · omega
    · exact hn h1⟩
theorem Cells.oldB {w w' : World} {Bs : List Nat} {b : Nat} {l : List Value} (h : Cells w b l) (ho : OldB Bs w w') (hb : b ∉ Bs) : Cells w' b l := h.same (ho.block b h.1 hb) ho.size
theorem Rd.oldB {α : Type} {f : α → List Value} {m : Nat} {w w' : World} {Bs : List Nat} {a : Option Addr} {l : List α} (h : Rd f m w a l) (ho : OldB Bs w w') (hn : ∀ b, a = some b → b.block ∉ Bs) : Rd f m w' a l := by
  rcases h with h | ⟨b, off, ha, hlt, hc⟩
  · exact .inl h
  · exact .inr ⟨b, off, ha, Nat.lt_of_lt_of_le hlt ho.size, fun i x hi j v hj => (cellBk (ho.block b hlt (hn _ ha))).trans (hc i x hi j v hj)⟩
theorem Own.oldB {α : Type} {f : α → List Value} {m : Nat} {T : TypeId} {base : Nat} {w w' : World} {Bs : List Nat} {v : Value} {l : List α} (h : Own f m T base w v l) (ho : OldB Bs w w') (hn : ∀ g, v.ownBlock = some g → g ∉ Bs) : Own f m T base w' v l :=
  h.kept fun g hg => ho.block g (World.ownsRow.lt h g hg).2 (hn g hg)
theorem Own.oldLow {α : Type} {f : α → List Value} {m : Nat} {T : TypeId} {base : Nat} {w w' : World} {Bs : List Nat} {v : Value} {l : List α} (h : Own f m T base w v l) (ho : OldB Bs w w') (hn : ∀ b ∈ Bs, b < base) : Own f m T base w' v l :=
  h.oldB ho fun g hg hm => by have := (World.ownsRow.lt h g hg).1; have := hn g hm; omega

theorem res_none {P : Program} {fn : Func} {tmps : Array Value} {w : World} (h : fn.results = #[]) : (results fn tmps).run P w = .ok (.tuple #[]) w := res0_F h
theorem res_t {P : Program} {fn : Func} {p : Tmp} {tmps : Array Value} {w : World} {v : Value} (h : fn.results = #[.tmp p]) (e : tmps.getD p undef = v) : (results fn tmps).run P w = .ok v w := by
  simp only [Array.getD_eq_getD_getElem?] at *
  simp only [results, h]
  simp [e]
theorem res_tt {P : Program} {fn : Func} {p p2 : Tmp} {tmps : Array Value} {w : World} {v v2 : Value} (h : fn.results = #[.tmp p, .tmp p2]) (e : tmps.getD p undef = v) (e2 : tmps.getD p2 undef = v2) : (results fn tmps).run P w = .ok (.tuple #[v, v2]) w := by
  simp only [Array.getD_eq_getD_getElem?] at *
  simp only [results, h]
  simp [Sem.run_bind, Result.andThen, e, e2]
theorem res_ttt {P : Program} {fn : Func} {p p2 p3 : Tmp} {tmps : Array Value} {w : World} {v v2 v3 : Value} (h : fn.results = #[.tmp p, .tmp p2, .tmp p3]) (e : tmps.getD p undef = v) (e2 : tmps.getD p2 undef = v2) (e3 : tmps.getD p3 undef = v3) : (results fn tmps).run P w = .ok (.tuple #[v, v2, v3]) w := by
  simp only [Array.getD_eq_getD_getElem?] at *
  simp only [results, h]
  simp [Sem.run_bind, Result.andThen, e, e2, e3]
theorem res_tttt {P : Program} {fn : Func} {p p2 p3 p4 : Tmp} {tmps : Array Value} {w : World} {v v2 v3 v4 : Value} (h : fn.results = #[.tmp p, .tmp p2, .tmp p3, .tmp p4]) (e : tmps.getD p undef = v) (e2 : tmps.getD p2 undef = v2) (e3 : tmps.getD p3 undef = v3) (e4 : tmps.getD p4 undef = v4) : (results fn tmps).run P w = .ok (.tuple #[v, v2, v3, v4]) w := by
  simp only [Array.getD_eq_getD_getElem?] at *
  simp only [results, h]
  simp [Sem.run_bind, Result.andThen, e, e2, e3, e4]
theorem res_ctt {P : Program} {fn : Func} {p u u2 : Tmp} {ty : TypeId} (h : fn.results = #[.cell p ty, .tmp u, .tmp u2]) {tmps : Array Value} {w : World} {ad : Addr} {v x x2 : Value} (e : tmps.getD p undef = .pointer (some ad)) (l : (loadVar ty ad).run P w = .ok v w) (e2 : tmps.getD u undef = x) (e3 : tmps.getD u2 undef = x2) :
    (results fn tmps).run P w = .ok (.tuple #[v, x, x2]) w := by
  simp only [Array.getD_eq_getD_getElem?] at *
  simp only [results, h]
  simp [Sem.run_bind, Result.andThen, e, asAddr, l, e2, e3]
theorem res_tc {P : Program} {fn : Func} {p u : Tmp} {ty : TypeId} (h : fn.results = #[.tmp u, .cell p ty]) {tmps : Array Value} {w : World} {ad : Addr} {v x : Value} (e2 : tmps.getD u undef = x) (e : tmps.getD p undef = .pointer (some ad)) (l : (loadVar ty ad).run P w = .ok v w) :
    (results fn tmps).run P w = .ok (.tuple #[x, v]) w := by
  simp only [Array.getD_eq_getD_getElem?] at *
  simp only [results, h]
  simp [Sem.run_bind, Result.andThen, e, asAddr, l, e2]
end

section
set_option linter.all false
open Go.RowKit

section
variable {P : Program} {ops : Array Oper} {n : Nat} {K : (Nat → Value) → World → Prop} {o : Oper} {os : List Oper} {s : Nat → Value} {w w' : World} {v : Value}
theorem pl (hr : listF P ops n K os (updS s o.dst v) w') (hg : o.guard = none := by rfl)
    (h : ∀ K' : Value → World → Prop, K' v w' → opF P o n s w K' := by intro K' hK; unfold opF; go_simp; exact hK) : listF P ops n K (o :: os) s w :=
  listF_step hg fun K' hK => h K' (hK _ _ hr)
theorem py {j d : Nat} {b : Bool} (hr : listF P ops n K os (updS s o.dst v) w') (hg : o.guard = some (j, b) := by rfl) (hd : (ops[j]?).bind (·.dst) = some d := by rfl) (hn : d < n := by decide) (hs : s d = .bool b := by go_simp; done)
    (h : ∀ K' : Value → World → Prop, K' v w' → opF P o n s w K' := by intro K' hK; unfold opF; go_simp; exact hK) : listF P ops n K (o :: os) s w :=
  listF_yes hg hd hn hs fun K' hK => h K' (hK _ _ hr)
theorem pn {j d : Nat} {b : Bool} (b' : Bool) (hr : listF P ops n K os (updS s o.dst undef) w) (hg : o.guard = some (j, b) := by rfl) (hd : (ops[j]?).bind (·.dst) = some d := by rfl) (hn : d < n := by decide) (hs : s d = .bool b' := by go_simp; done)
    (hb : (b' == b) = false := by rfl) : listF P ops n K (o :: os) s w :=
  listF_no hg hd hn hs hb hr
theorem pu {j d : Nat} {b : Bool} (hr : listF P ops n K os (updS s o.dst undef) w) (hg : o.guard = some (j, b) := by rfl) (hd : (ops[j]?).bind (·.dst) = some d := by rfl) (hn : d < n := by decide) (hs : s d = undef := by go_simp; done) : listF P ops n K (o :: os) s w :=
  listF_nu hg hd hn hs hr
theorem pa {l : List Value} {T : TypeId} (hr : ∀ w' B, B = w.heap.size → Cells w' B l → Below w.heap.size w w' → listF P ops n K os (updS s o.dst (.pointer (some ⟨B, 0, none⟩))) w') (hg : o.guard = none := by rfl)
    (h : ∀ K' : Value → World → Prop, K' (.pointer (some ⟨w.heap.size, 0, none⟩)) (w.alloc (.cells l.toArray T)) → opF P o n s w K' := by intro K' hK; unfold opF; go_simp; exact hK) : listF P ops n K (o :: os) s w :=
  listF_step hg fun K' hK => h K' (hK _ _ (hr _ _ rfl Cells.newL (below_alloc1 _ _)))
theorem pas {l : List Value} {T : TypeId} {k c : Nat} (hr : ∀ w' B, B = w.heap.size → Cells w' B l → Below w.heap.size w w' → listF P ops n K os (updS s o.dst (.slice (some ⟨B, 0, none⟩) k c)) w') (hg : o.guard = none := by rfl)
    (h : ∀ K' : Value → World → Prop, K' (.slice (some ⟨w.heap.size, 0, none⟩) k c) (w.alloc (.cells l.toArray T)) → opF P o n s w K' := by intro K' hK; unfold opF; go_simp; exact hK) : listF P ops n K (o :: os) s w :=
  listF_step hg fun K' hK => h K' (hK _ _ (hr _ _ rfl Cells.newL (below_alloc1 _ _)))
theorem pay {j d : Nat} {b : Bool} {l : List Value} {T : TypeId} (hr : ∀ w' B, B = w.heap.size → Cells w' B l → Below w.heap.size w w' → listF P ops n K os (updS s o.dst (.pointer (some ⟨B, 0, none⟩))) w') (hg : o.guard = some (j, b) := by rfl) (hd : (ops[j]?).bind (·.dst) = some d := by rfl) (hn : d < n := by decide) (hs : s d = .bool b := by go_simp; done)
    (h : ∀ K' : Value → World → Prop, K' (.pointer (some ⟨w.heap.size, 0, none⟩)) (w.alloc (.cells l.toArray T)) → opF P o n s w K' := by intro K' hK; unfold opF; go_simp; exact hK) : listF P ops n K (o :: os) s w :=
  listF_yes hg hd hn hs fun K' hK => h K' (hK _ _ (hr _ _ rfl Cells.newL (below_alloc1 _ _)))
theorem pasy {j d : Nat} {b : Bool} {l : List Value} {T : TypeId} {k c : Nat} (hr : ∀ w' B, B = w.heap.size → Cells w' B l → Below w.heap.size w w' → listF P ops n K os (updS s o.dst (.slice (some ⟨B, 0, none⟩) k c)) w') (hg : o.guard = some (j, b) := by rfl) (hd : (ops[j]?).bind (·.dst) = some d := by rfl) (hn : d < n := by decide) (hs : s d = .bool b := by go_simp; done)
    (h : ∀ K' : Value → World → Prop, K' (.slice (some ⟨w.heap.size, 0, none⟩) k c) (w.alloc (.cells l.toArray T)) → opF P o n s w K' := by intro K' hK; unfold opF; go_simp; exact hK) : listF P ops n K (o :: os) s w :=
  listF_yes hg hd hn hs fun K' hK => h K' (hK _ _ (hr _ _ rfl Cells.newL (below_alloc1 _ _)))
end
section
variable {P : Program} {ops : Array Oper} {n : Nat} {K : (Nat → Value) → Prop} {o : Oper} {os : List Oper} {s : Nat → Value} {W : World} {v : Value}
theorem lq (h2 : listQ P ops n (Below W.heap.size W) K os (updS s o.dst v)) (hg : o.guard = none := by rfl)
    (h1 : ∀ w, Below W.heap.size W w → Oper.quietUpon P (Below W.heap.size W) w v ((execOp (evF n s) o).run P w) := by intro wq hwq; obtain ⟨hcq, hfq⟩ := bcell hwq; go_simp; (first | rfl | exact ⟨rfl, rfl⟩ | (refine ⟨?_, ?_⟩ <;> rfl))) : listQ P ops n (Below W.heap.size W) K (o :: os) s :=
  listQ_step hg h1 h2
theorem lqy {j d : Nat} {b : Bool} (h2 : listQ P ops n (Below W.heap.size W) K os (updS s o.dst v)) (hg : o.guard = some (j, b) := by rfl) (hd : (ops[j]?).bind (·.dst) = some d := by rfl) (hn : d < n := by decide) (hs : s d = .bool b := by go_simp; done)
    (h1 : ∀ w, Below W.heap.size W w → Oper.quietUpon P (Below W.heap.size W) w v ((execOp (evF n s) o).run P w) := by intro wq hwq; obtain ⟨hcq, hfq⟩ := bcell hwq; go_simp; (first | rfl | exact ⟨rfl, rfl⟩ | (refine ⟨?_, ?_⟩ <;> rfl))) : listQ P ops n (Below W.heap.size W) K (o :: os) s :=
  listQ_yes hg hd hn hs h1 h2
theorem lqu {C : World → Prop} {j d : Nat} {b : Bool} (h : listQ P ops n C K os (updS s o.dst undef)) (hg : o.guard = some (j, b) := by rfl) (hd : (ops[j]?).bind (·.dst) = some d := by rfl) (hn : d < n := by decide) (hs : s d = undef := by go_simp; done) : listQ P ops n C K (o :: os) s :=
  listQ_nu hg hd hn hs h
theorem lqn {C : World → Prop} {j d : Nat} {b : Bool} (b' : Bool) (h : listQ P ops n C K os (updS s o.dst undef)) (hg : o.guard = some (j, b) := by rfl) (hd : (ops[j]?).bind (·.dst) = some d := by rfl) (hn : d < n := by decide) (hs : s d = .bool b' := by go_simp; done)
    (hb : (b' == b) = false := by rfl) : listQ P ops n C K (o :: os) s :=
  listQ_no hg hd hn hs hb h
end
section
variable {P : Program} {kk : List OK} {ops : Array Oper} {n : Nat} {w0 : World} {Bs rs : List Nat} {K : (Nat → Value) → World → Prop} {i : Nat} {o : Oper} {os : List Oper} {ks : List OK} {v : Ad → Value} {vs : List (Ad → Value)} {c : Ad → List Value} {cs : List (Ad → List Value)} {s : Ad → Nat → Value} {d : Ad → Nat → List Value}
theorem rq (h2 : walkR P kk ops n w0.drew Bs rs K (i + 1) os ks vs cs (fun X => updS (s X) o.dst (v X)) d) (hg : o.guard = none := by rfl)
    (h1 : ∀ X, Good kk ops.size w0.drew Bs X → ∀ w, OldB Bs w0.drew w → quietB P w (v X) ((execOp (evF n (s X)) o).run P w) := by intro X hX wq hwq; (first | obtain ⟨hcq, hfq⟩ := OldB.b0 hwq | obtain ⟨hcq, hfq⟩ := OldB.b1 hwq | obtain ⟨hcq, hfq⟩ := OldB.b2 hwq | obtain ⟨hcq, hfq⟩ := OldB.b3 hwq); go_simp; (first | rfl | exact ⟨rfl, rfl⟩ | (refine ⟨?_, ?_⟩ <;> rfl))) : walkR P kk ops n w0.drew Bs rs K i (o :: os) (.q [] :: ks) (v :: vs) (c :: cs) s d :=
  walkR_q hg (fun X hX w hw _ => h1 X hX w hw) h2
theorem rqy {j t : Nat} {b : Bool} (h2 : walkR P kk ops n w0.drew Bs rs K (i + 1) os ks vs cs (fun X => updS (s X) o.dst (v X)) d) (hg : o.guard = some (j, b) := by rfl) (hd : (ops[j]?).bind (·.dst) = some t := by rfl) (hn : t < n := by decide)
    (hs : ∀ X, Good kk ops.size w0.drew Bs X → s X t = .bool b := by intro X hX; go_simp)
    (h1 : ∀ X, Good kk ops.size w0.drew Bs X → ∀ w, OldB Bs w0.drew w → quietB P w (v X) ((execOp (evF n (s X)) o).run P w) := by intro X hX wq hwq; (first | obtain ⟨hcq, hfq⟩ := OldB.b0 hwq | obtain ⟨hcq, hfq⟩ := OldB.b1 hwq | obtain ⟨hcq, hfq⟩ := OldB.b2 hwq | obtain ⟨hcq, hfq⟩ := OldB.b3 hwq); go_simp; (first | rfl | exact ⟨rfl, rfl⟩ | (refine ⟨?_, ?_⟩ <;> rfl))) : walkR P kk ops n w0.drew Bs rs K i (o :: os) (.q [] :: ks) (v :: vs) (c :: cs) s d :=
  walkR_qg hg hd hn hs (fun X hX w hw _ => h1 X hX w hw) h2
theorem dR {len : Nat} {M : Array Nat} (h2 : depR len M (i + 1) vs cs) (h : ∀ X X' : Ad, v X = v X' ∧ c X = c X' := by intro X X'; exact ⟨rfl, rfl⟩) : depR len M i (v :: vs) (c :: cs) := depR_cons (fun X X' _ => h X X') h2
end
theorem cB {P : Program} {f : FuncId} {args : Array Value} {w : World} {v : Value} (h : Calls P f args w fun e w' => e = .returned v ∧ w = w') : Calls P f args w fun e w' => e = .returned v ∧ Below w.heap.size w w' := h.mono fun e w' ⟨a, b⟩ => ⟨a, b ▸ Below.refl _ _⟩
/-- the value of a slot in a new frame: kept, and set -/
theorem gs {s' S S0 : Nat → Value} (t : Nat) {v : Value} (hs : s' = S) (h0 : S0 t = v) (h : S t = S0 t := by first | (simp only [updS_some, updS_none, Nat.reduceEqDiff, ↓reduceIte]; done) | rfl) : s' t = v := by rw [hs, h]; exact h0
theorem gu {s' S : Nat → Value} (t : Nat) {v : Value} (hs : s' = S) (h : S t = v := by (simp only [updS_some, updS_none, Nat.reduceEqDiff, ↓reduceIte]); rfl) : s' t = v := by rw [hs, h]
theorem boolG {v : Value} {E : Bool} {G : Prop} (h : v = .bool E) (h1 : v = .bool true → E = true → G) (h2 : v = .bool false → E = false → G) : G := by cases E <;> simp_all
theorem OldB.gB {Bs : List Nat} {w0 w : World} {B : Nat} (h : OldB Bs w0 w) (hB : B = w.heap.size) : w0.heap.size ≤ B := by have := h.size; omega
theorem oB {a n B : Nat} (h : a < n) (hB : B = n) : a < B := by omega
theorem eB {n B : Nat} (hB : B = n) : n ≤ B := by omega
theorem oldset {Bs : List Nat} {w0 w wX : World} (h : w = wX) (ho : OldB Bs w0 wX := by repeat (first | exact OldB.refl _ _ | refine OldB.set ?_ (by simp))) : OldB Bs w0 w := by rw [h]; exact ho
def isStop : Code → Bool
  | .region .. => true
  | .cond .. => true
  | _ => false
theorem stp {P : Program} {c : Code} {Q : Exit → Act → World → Prop} {a : Act} {w : World} (h : c.wp P Q a w) (_ : isStop c = true := by rfl) : c.wp P Q a w := h
theorem cond_t {P : Program} {c : Operand} {x y : Code} {n : Nat} {ds : List Deferred} {Q : Exit → Act → World → Prop} {s : Nat → Value} {w : World} (h : x.wp P Q (mkA n s ds) w) (hc : evF n s c = .bool true := by go_simp; done) : (Code.cond c x y).wp P Q (mkA n s ds) w :=
  cond_F true hc (by simpa using h)
theorem cond_f {P : Program} {c : Operand} {x y : Code} {n : Nat} {ds : List Deferred} {Q : Exit → Act → World → Prop} {s : Nat → Value} {w : World} (h : y.wp P Q (mkA n s ds) w) (hc : evF n s c = .bool false := by go_simp; done) : (Code.cond c x y).wp P Q (mkA n s ds) w :=
  cond_F false hc (by simpa using h)
end

section
set_option linter.all false
open Go.RowKit

section
/-- what holds of some blocks, and of no others -/
structure En where
  P : (Nat → Prop) → World → Prop
  mono : ∀ {S S' : Nat → Prop} {w : World}, P S w → (∀ b, S b → S' b) → P S' w
  loc : ∀ {S : Nat → Prop} {w w' : World}, P S w → (∀ b, S b → w'.heap[b]? = w.heap[b]?) → w.heap.size ≤ w'.heap.size → P S w'
/-- the entries hold, each of blocks of its own, within U -/
def Sep (w : World) : List En → (Nat → Prop) → Prop
  | [], _ => True
  | e :: H, U => ∃ S : Nat → Prop, (∀ b, S b → U b) ∧ e.P S w ∧ Sep w H (fun b => U b ∧ ¬ S b)
theorem Sep.mono {w : World} : ∀ {H : List En} {U U' : Nat → Prop}, Sep w H U → (∀ b, U b → U' b) → Sep w H U'
  | [], _, _, _, _ => trivial
  | _ :: _, _, _, ⟨S, hS, hP, hr⟩, h => ⟨S, fun b hb => h b (hS b hb), hP, hr.mono fun b hb => ⟨h b hb.1, hb.2⟩⟩
theorem Sep.loc {w w' : World} (hs : w.heap.size ≤ w'.heap.size) : ∀ {H : List En} {U : Nat → Prop}, Sep w H U → (∀ b, U b → w'.heap[b]? = w.heap[b]?) → Sep w' H U
  | [], _, _, _ => trivial
  | e :: _, _, ⟨S, hS, hP, hr⟩, h => ⟨S, hS, e.loc hP (fun b hb => h b (hS b hb)) hs, hr.loc hs fun b hb => h b hb.1⟩
theorem Sep.swap {w : World} {a b : En} {H : List En} {U : Nat → Prop} (h : Sep w (a :: b :: H) U) : Sep w (b :: a :: H) U := by
  obtain ⟨S, hS, ha, T, hT, hb, hr⟩ := h
  exact ⟨T, fun x hx => (hT x hx).1, hb, S, fun x hx => ⟨hS x hx, fun ht => (hT x ht).2 hx⟩, ha, hr.mono fun x hx => ⟨⟨hx.1.1, hx.2⟩, hx.1.2⟩⟩
theorem Sep.perm {w : World} {H H' : List En} (p : H.Perm H') : ∀ {U : Nat → Prop}, Sep w H U → Sep w H' U := by
  induction p with
  | nil => exact id
  | cons a _ ih => rintro U ⟨S, hS, hP, hr⟩; exact ⟨S, hS, hP, ih hr⟩
  | swap a b l => intro U h; exact h.swap
  | trans _ _ i1 i2 => intro U h; exact i2 (i1 h)
theorem Sep.app {w : World} : ∀ {E H : List En} {S U : Nat → Prop}, Sep w E S → Sep w H U → (∀ b, S b → ¬ U b) → Sep w (E ++ H) (fun b => S b ∨ U b)
  | [], _, _, _, _, h2, _ => h2.mono fun _ h => .inr h
  | _ :: _, _, _, _, ⟨T, hT, hP, hr⟩, h2, hd => ⟨T, fun b hb => .inl (hT b hb), hP, (Sep.app hr h2 (fun b hb => hd b hb.1)).mono fun b hb => by
      rcases hb with hb | hb
      · exact ⟨.inl hb.1, hb.2⟩
      · exact ⟨.inr hb, fun ht => hd b (hT b ht) hb⟩⟩
theorem Sep.drop {w : World} {e : En} {H : List En} {U : Nat → Prop} (h : Sep w (e :: H) U) : Sep w H U := by obtain ⟨S, _, _, hr⟩ := h; exact hr.mono fun b hb => hb.1
/-- the entry e stands in H; H' is the rest -/
inductive Pick (e : En) : List En → List En → Prop
  | here {H : List En} : Pick e (e :: H) H
  | there {a : En} {H H' : List En} : Pick e H H' → Pick e (a :: H) (a :: H')
/-- e' in the place of e -/
inductive Rep (e e' : En) : List En → List En → Prop
  | here {H : List En} : Rep e e' (e :: H) (e' :: H)
  | there {a : En} {H H' : List En} : Rep e e' H H' → Rep e e' (a :: H) (a :: H')
theorem Pick.perm {e : En} {H H' : List En} (h : Pick e H H') : H.Perm (e :: H') := by
  induction h with
  | here => exact .refl _
  | there _ ih => exact (ih.cons _).trans (.swap _ _ _)
theorem Rep.split {e e' : En} {H H'' : List En} (h : Rep e e' H H'') : ∃ H', H.Perm (e :: H') ∧ H''.Perm (e' :: H') := by
  induction h with
  | here => exact ⟨_, .refl _, .refl _⟩
  | there _ ih => obtain ⟨H', h1, h2⟩ := ih; exact ⟨_ :: H', (h1.cons _).trans (.swap _ _ _), (h2.cons _).trans (.swap _ _ _)⟩
/-- all of K stands in H -/
inductive Sub : List En → List En → Prop
  | nil {H : List En} : Sub [] H
  | cons {e : En} {K H H' : List En} : Pick e H H' → Sub K H' → Sub (e :: K) H
theorem pk {e : En} {H H' : List En} (h : Pick e H H' := by first | exact Pick.here | (apply Pick.there; first | exact Pick.here | (apply Pick.there; first | exact Pick.here | (apply Pick.there; first | exact Pick.here | (apply Pick.there; first | exact Pick.here | (apply Pick.there; first | exact Pick.here | (apply Pick.there; first | exact Pick.here | (apply Pick.there; first | exact Pick.here | (apply Pick.there; first | exact Pick.here | (apply Pick.there; first | exact Pick.here | (apply Pick.there; first | exact Pick.here | (apply Pick.there; first | exact Pick.here | (apply Pick.there; first | exact Pick.here | (apply Pick.there; first | exact Pick.here | (apply Pick.there; exact Pick.here))))))))))))))) : Pick e H H' := h
theorem rp {e e' : En} {H H' : List En} (h : Rep e e' H H' := by first | exact Rep.here | (apply Rep.there; first | exact Rep.here | (apply Rep.there; first | exact Rep.here | (apply Rep.there; first | exact Rep.here | (apply Rep.there; first | exact Rep.here | (apply Rep.there; first | exact Rep.here | (apply Rep.there; first | exact Rep.here | (apply Rep.there; first | exact Rep.here | (apply Rep.there; first | exact Rep.here | (apply Rep.there; first | exact Rep.here | (apply Rep.there; first | exact Rep.here | (apply Rep.there; first | exact Rep.here | (apply Rep.there; first | exact Rep.here | (apply Rep.there; first | exact Rep.here | (apply Rep.there; exact Rep.here))))))))))))))) : Rep e e' H H' := h
theorem sb {K H : List En} (h : Sub K H := by repeat (first | exact Sub.nil | refine Sub.cons pk ?_)) : Sub K H := h
theorem Sub.sep {w : World} {K H : List En} (h : Sub K H) : ∀ {U : Nat → Prop}, Sep w H U → Sep w K U := by
  induction h with
  | nil => intro U _; trivial
  | cons hp _ ih => intro U hs; obtain ⟨S, h1, h2, h3⟩ := hs.perm hp.perm; exact ⟨S, h1, h2, ih h3⟩

/-- the memory of a call that began in w0 and may alter the old blocks Bs: its entries, all else of the old as it was -/
def Mem (w0 : World) (Bs : List Nat) (H : List En) (w : World) : Prop := OldB Bs w0 w ∧ Sep w H (fun b => b < w.heap.size ∧ (w0.heap.size ≤ b ∨ b ∈ Bs))
/-- what a call that began in w hands back: old memory as it was, and new entries -/
def New (w w' : World) (E : List En) : Prop := Below w.heap.size w w' ∧ Sep w' E (fun b => w.heap.size ≤ b ∧ b < w'.heap.size)
variable {w0 w w' : World} {Bs : List Nat} {H H' H'' : List En} {e e' : En}
theorem Mem.start (w : World) : Mem w [] [] w := ⟨OldB.refl _ _, trivial⟩
theorem Mem.perm (h : Mem w0 Bs H w) (p : H.Perm H') : Mem w0 Bs H' w := ⟨h.1, h.2.perm p⟩
theorem Mem.sub (h : Mem w0 Bs H w) (p : Sub H' H) : Mem w0 Bs H' w := ⟨h.1, p.sep h.2⟩
theorem Mem.call (h : Mem w0 Bs H w) (hb : Below w.heap.size w w') : Mem w0 Bs H w' :=
  ⟨h.1.below hb, (h.2.loc hb.size (fun b hb' => hb.block b hb'.1)).mono fun b hb' => ⟨Nat.lt_of_lt_of_le hb'.1 hb.size, hb'.2⟩⟩
theorem Mem.new {E : List En} (h : Mem w0 Bs H w) (hn : New w w' E) : Mem w0 Bs (E ++ H) w' := by
  refine ⟨h.1.below hn.1, (Sep.app hn.2 (h.2.loc hn.1.size (fun b hb' => hn.1.block b hb'.1)) (fun b h1 h2 => by have := h2.1; omega)).mono fun b hb => ?_⟩
  rcases hb with hb | hb
  · exact ⟨hb.2, .inl (Nat.le_trans h.1.size hb.1)⟩
  · exact ⟨Nat.lt_of_lt_of_le hb.1 hn.1.size, hb.2⟩
theorem Mem.below (h : Mem w0 [] H w) : Below w0.heap.size w0 w := h.1.toBelow
theorem Mem.done {E : List En} (h : Mem w0 [] H w) (hs : Sub E H) : New w0 w E :=
  ⟨h.below, (hs.sep h.2).mono fun b hb => ⟨hb.2.resolve_right (by simp), hb.1⟩⟩
theorem Mem.drew (h : Mem w0 Bs H w) : Mem w0 Bs H w.drew := ⟨OldB.drewN h.1, Sep.loc (Nat.le_refl _) (w := w) (w' := w.drew) h.2 (fun _ _ => rfl)⟩
theorem New.nil (h : Below w.heap.size w w') : New w w' [] := ⟨h, trivial⟩

/-- one block of cells -/
def En.cells (b : Nat) (l : List Value) : En where
  P S w := S b ∧ Cells w b l
  mono h hs := ⟨hs _ h.1, h.2⟩
  loc h hs hz := ⟨h.1, h.2.same (hs _ h.1) hz⟩
/-- a list of the call's own -/
def En.own {α : Type} (f : α → List Value) (m : Nat) (T : TypeId) (v : Value) (l : List α) : En where
  P S w := (∀ g, v.ownBlock = some g → S g) ∧ Own f m T 0 w v l
  mono h hs := ⟨fun g hg => hs _ (h.1 g hg), h.2⟩
  loc h hs hz := ⟨h.1, h.2.kept fun g hg => hs _ (h.1 g hg)⟩
/-- a list that is read -/
def En.rd {α : Type} (f : α → List Value) (m : Nat) (a : Option Addr) (l : List α) : En where
  P S w := (∀ b, l ≠ [] → a = some b → S b.block) ∧ Rd f m w a l
  mono h hs := ⟨fun b hl hb => hs _ (h.1 b hl hb), h.2⟩
  loc h hs hz := by
    refine ⟨h.1, ?_⟩
    rcases h.2 with hn | ⟨b, off, ha, hlt, hc⟩
    · exact .inl hn
    · by_cases hl : l = []
      · exact .inl hl
      · exact .inr ⟨b, off, ha, Nat.lt_of_lt_of_le hlt hz, fun i x hi j v hj => (cellBk (hs _ (h.1 _ hl ha))).trans (hc i x hi j v hj)⟩
/-- several -/
def En.star (H : List En) : En where
  P S w := Sep w H S
  mono h hs := h.mono hs
  loc h hs hz := h.loc hz hs
def En.ex {X : Type} (e : X → En) : En where
  P S w := ∃ x, (e x).P S w
  mono h hs := let ⟨x, hx⟩ := h; ⟨x, (e x).mono hx hs⟩
  loc h hs hz := let ⟨x, hx⟩ := h; ⟨x, (e x).loc hx hs hz⟩
/-- a plain truth -/
def En.pure (p : Prop) : En where
  P _ _ := p
  mono h _ := h
  loc h _ _ := h
theorem Sep.flat {e : List En} {U : Nat → Prop} (h : Sep w (En.star e :: H) U) : Sep w (e ++ H) U := by
  obtain ⟨S, hS, hP, hr⟩ := h
  exact (Sep.app hP hr (fun b hb hn => hn.2 hb)).mono fun b hb => hb.elim (hS b) (fun h => h.1)
theorem Mem.flat {e : List En} (h : Mem w0 Bs (En.star e :: H) w) : Mem w0 Bs (e ++ H) w := ⟨h.1, h.2.flat⟩
theorem Mem.exs {X : Type} {e : X → En} (h : Mem w0 Bs (En.ex e :: H) w) : ∃ x, Mem w0 Bs (e x :: H) w := by
  obtain ⟨h0, S, hS, ⟨x, hx⟩, hr⟩ := h
  exact ⟨x, h0, S, hS, hx, hr⟩
theorem Mem.pures {p : Prop} (h : Mem w0 Bs (En.pure p :: H) w) : p ∧ Mem w0 Bs H w := by
  obtain ⟨h0, S, hS, hx, hr⟩ := h
  exact ⟨hx, h0, hr.mono fun b hb => hb.1⟩
theorem Mem.head (h : Mem w0 Bs (e :: H) w) : ∃ S, e.P S w ∧ ∀ b, S b → b < w.heap.size ∧ (w0.heap.size ≤ b ∨ b ∈ Bs) := by
  obtain ⟨_, S, hS, hx, _⟩ := h; exact ⟨S, hx, hS⟩
theorem Mem.pick (h : Mem w0 Bs H w) (p : Pick e H H') : Mem w0 Bs (e :: H') w := h.perm p.perm
theorem Mem.cells {b : Nat} {l : List Value} (h : Mem w0 Bs H w) (p : Pick (.cells b l) H H') : Cells w b l := by
  obtain ⟨S, hx, _⟩ := (h.pick p).head; exact hx.2
theorem Mem.rd {α : Type} {f : α → List Value} {m : Nat} {a : Option Addr} {l : List α} (h : Mem w0 Bs H w) (p : Pick (.rd f m a l) H H') : Rd f m w a l := by
  obtain ⟨S, hx, _⟩ := (h.pick p).head; exact hx.2
theorem Mem.own {α : Type} {f : α → List Value} {m : Nat} {T : TypeId} {v : Value} {l : List α} (h : Mem w0 Bs H w) (p : Pick (.own f m T v l) H H') : Own f m T 0 w v l := by
  obtain ⟨S, hx, _⟩ := (h.pick p).head; exact hx.2
/-- one entry's blocks altered, or new blocks in its place -/
theorem Mem.rep (h : Mem w0 Bs H w) (p : Rep e e' H H'') (hw : ∀ S : Nat → Prop, e.P S w → (∀ b, S b → b < w.heap.size) →
    w'.os = w.os ∧ w'.tape = w.tape ∧ w'.output = w.output ∧ w.heap.size ≤ w'.heap.size ∧ (∀ b, b < w.heap.size → ¬ S b → w'.heap[b]? = w.heap[b]?) ∧ e'.P (fun b => (S b ∨ w.heap.size ≤ b) ∧ b < w'.heap.size) w') : Mem w0 Bs H'' w' := by
  obtain ⟨K, p1, p2⟩ := p.split
  obtain ⟨h0, S, hS, hx, hr⟩ := h.perm p1
  obtain ⟨g1, g2, g3, g4, g5, g6⟩ := hw S hx (fun b hb => (hS b hb).1)
  refine Mem.perm ⟨⟨g1.trans h0.os, g2.trans h0.tape, g3.trans h0.output, Nat.le_trans h0.size g4, fun k hk hn => (g5 k (Nat.lt_of_lt_of_le hk h0.size) fun hs => ?_).trans (h0.block k hk hn)⟩, ?_⟩ p2.symm
  · rcases (hS k hs).2 with h | h
    · omega
    · exact hn h
  · refine ⟨_, fun b hb => ⟨hb.2, ?_⟩, g6, (hr.loc g4 fun b hb => g5 b hb.1.1 hb.2).mono fun b hb => ⟨⟨Nat.lt_of_lt_of_le hb.1.1 g4, hb.1.2⟩, fun h9 => ?_⟩⟩
    · rcases hb.1 with h | h
      · exact (hS b h).2
      · exact .inl (Nat.le_trans h0.size h)
    · rcases h9.1 with h | h
      · exact hb.2 h
      · have := hb.1.1; omega
theorem Mem.set {b i : Nat} {l : List Value} {u : Value} (h : Mem w0 Bs H w) (p : Rep (.cells b l) (.cells b (l.set i u)) H H'') : Mem w0 Bs H'' (w.setCell ⟨b, i, none⟩ u) := by
  refine h.rep p fun S hx hlt => ⟨rfl, rfl, rfl, by simp [World.setCell], fun k hk hn => ?_, ⟨.inl hx.1, ?_⟩, hx.2.set⟩
  · have : k ≠ b := fun e => hn (e ▸ hx.1)
    simp only [World.setCell]
    rw [Array.getElem?_modify, if_neg (fun e => this e.symm)]
  · simpa [World.setCell] using hlt b hx.1
theorem New.cells {l : List Value} {T : TypeId} : New w (w.alloc (.cells l.toArray T)) [.cells w.heap.size l] :=
  ⟨below_alloc1 _ _, fun b => b = w.heap.size, fun b hb => by subst hb; exact ⟨Nat.le_refl _, (Cells.newL (w := w) (l := l) (T := T)).1⟩, ⟨rfl, Cells.newL⟩, trivial⟩
/-- an old list is read as ever -/
theorem Mem.old {α : Type} {f : α → List Value} {m : Nat} {a : Option Addr} {l : List α} (h : Mem w0 Bs H w) (hr : Rd f m w0 a l) (hn : ∀ b, a = some b → b.block ∉ Bs := by simp) : Rd f m w a l := hr.oldB h.1 hn
theorem Mem.oldC {b : Nat} {l : List Value} (h : Mem w0 Bs H w) (hc : Cells w0 b l) (hn : b ∉ Bs := by simp) : Cells w b l := hc.oldB h.1 hn
end
end

section
set_option linter.all false
/-- an element, wherever -/
def lx {α : Type} [Inhabited α] (l : List α) (i : Nat) : α := l.getD i default
theorem lx_eq {α : Type} [Inhabited α] {l : List α} {i : Nat} (h : i < l.length) : lx l i = l[i] := by simp [lx, List.getD_eq_getElem?_getD, h]
theorem lx_some {α : Type} [Inhabited α] {l : List α} {i : Nat} (h : i < l.length) : l[i]? = some (lx l i) := by rw [lx_eq h]; exact List.getElem?_eq_getElem h
theorem lx_mem {α : Type} [Inhabited α] {l : List α} {i : Nat} (h : i < l.length) : lx l i ∈ l := by rw [lx_eq h]; exact List.getElem_mem h

@[simp] theorem lx_drop {α : Type} [Inhabited α] (l : List α) (k i : Nat) : lx (l.drop k) i = lx l (i + k) := by simp [lx, List.getD_eq_getElem?_getD, Nat.add_comm]
@[simp] theorem lx_tail {α : Type} [Inhabited α] (l : List α) (i : Nat) : lx l.tail i = lx l (i + 1) := by rw [← List.drop_one, lx_drop]
theorem lx_take {α : Type} [Inhabited α] {l : List α} {k i : Nat} (h : i < k) : lx (l.take k) i = lx l i := by simp [lx, List.getD_eq_getElem?_getD, List.getElem?_take, h]
end

section
set_option linter.all false
open Go.RowKit

section
/-- a frame: these slots, the rest as in g -/
def tab : List (Nat × Value) → (Nat → Value) → Nat → Value
  | [], g, t => g t
  | p :: L, g, t => if t = p.1 then p.2 else tab L g t
@[simp] theorem tab_nil (g : Nat → Value) (t : Nat) : tab [] g t = g t := rfl
@[simp] theorem tab_cons (k : Nat) (v : Value) (L : List (Nat × Value)) (g : Nat → Value) (t : Nat) : tab ((k, v) :: L) g t = if t = k then v else tab L g t := rfl
theorem tab_upd (d : Nat) (v : Value) (L : List (Nat × Value)) (g : Nat → Value) : updS (tab L g) (some d) v = tab ((d, v) :: L) g := rfl
theorem tab_same {L : List (Nat × Value)} {g : Nat → Value} {d : Nat} {v : Value} (h : tab L g d = v) : tab ((d, v) :: L) g = tab L g := by
  funext t; rw [tab_cons]; split
  · rename_i e; rw [e, h]
  · rfl
theorem tab_app (A L : List (Nat × Value)) (g : Nat → Value) : tab (A ++ L) g = tab A (tab L g) := by
  induction A with
  | nil => rfl
  | cons p A ih => funext t; simp only [List.cons_append, tab]; rw [ih]
def inP : List Value → Nat → List (Nat × Value)
  | [], _ => []
  | v :: l, k => (k, v) :: inP l (k + 1)
theorem inP_get : ∀ (l : List Value) (k : Nat) (g : Nat → Value), (∀ i v, l[i]? = some v → g (k + i) = v) → tab (inP l k) g = g
  | [], _, _, _ => rfl
  | v :: l, k, g, h => by
    have h0 := h 0 v (by simp)
    show tab ((k, v) :: inP l (k + 1)) g = g
    have ih := inP_get l (k + 1) g (fun i u hu => by have := h (i + 1) u (by simpa using hu); rw [← this]; congr 1; omega)
    rw [tab_same (by rw [ih]; exact h0), ih]
/-- slot t holds v -/
def At (L : List (Nat × Value)) (t : Nat) (v : Value) : Prop := ∀ g, tab L g t = v
section
variable (w0 : World) (Bs : List Nat) (P : Program)
structure GoC (c : Code) (n : Nat) (ds : List Deferred) (L : List (Nat × Value)) (H : List En) (Q : Exit → Act → World → Prop) : Prop where
  go : ∀ g w, Mem w0 Bs H w → c.wp P Q (mkA n (tab L g) ds) w
structure GoX (x : Exit) (n : Nat) (ds : List Deferred) (L : List (Nat × Value)) (H : List En) (Q : Exit → Act → World → Prop) : Prop where
  go : ∀ g w, Mem w0 Bs H w → Q x (mkA n (tab L g) ds) w
structure GoL (ops : Array Oper) (n : Nat) (K : (Nat → Value) → World → Prop) (l : List Oper) (L : List (Nat × Value)) (H : List En) : Prop where
  go : ∀ g w, Mem w0 Bs H w → listF P ops n K l (tab L g) w
/-- an operation that leaves the world as it is -/
def Ex (n : Nat) (o : Oper) (L : List (Nat × Value)) (H : List En) (v : Value) : Prop := ∀ g w, Mem w0 Bs H w → (execOp (evF n (tab L g)) o).run P w = .ok (.value v) w
/-- an operation that calls f -/
def Cl (n : Nat) (o : Oper) (L : List (Nat × Value)) (f : FuncId) (args : Array Value) : Prop := ∀ g w, (execOp (evF n (tab L g)) o).run P w = .ok (.enter f args) w
end

variable {w0 : World} {Bs : List Nat} {P : Program} {c x y : Code} {n : Nat} {ds : List Deferred} {L : List (Nat × Value)} {H : List En} {Q : Exit → Act → World → Prop} {ops : Array Oper} {K : (Nat → Value) → World → Prop} {o : Oper} {os : List Oper} {v : Value}
theorem go_in {f : FuncId} {fn : Func} {c : Code} {args : Array Value} {w : World} {R : Ending → World → Prop} {n : Nat} (hf : P.funcs[f]? = some fn) (hb : fn.body = some c) (hn : fn.ntmps = n) (Bs : List Nat) (H : List En) (hM : Mem w Bs H w)
    (h : GoC w Bs P c n [] L H (bodyPost P fn R)) (ha : args.size ≤ n := by simp) (hL : inP args.toList 0 = L := by simp only [inP, Nat.reduceAdd]; rfl) : Calls P f args w R :=
  enter_F hf hb hn ha fun s hs => by
    have := h.go s w hM
    rw [← hL, inP_get _ _ _ (fun i v hv => ?_)] at this
    · exact this
    · have hi : i < args.size := by have := (List.getElem?_eq_some_iff.1 hv).1; simpa using this
      rw [Nat.zero_add, hs i hi]
      rw [Array.getElem?_toList] at hv
      rw [hv]; rfl
theorem go_seq (h : GoC w0 Bs P x n ds L H (Exit.then (y.wp P Q) Q)) : GoC w0 Bs P (.seq x y) n ds L H Q := .mk fun g w hw => wp_seq (h.go g w hw)
theorem go_blk {id : Nat} (h : GoC w0 Bs P x n ds L H (Exit.inBlock id Q)) : GoC w0 Bs P (.block id x) n ds L H Q := .mk fun g w hw => wp_block (h.go g w hw)
theorem go_skip (h : GoX w0 Bs .normal n ds L H Q) : GoC w0 Bs P .skip n ds L H Q := .mk fun g w hw => wp_skip (h.go g w hw)
theorem go_ret (h : GoX w0 Bs .ret n ds L H Q) : GoC w0 Bs P .ret n ds L H Q := .mk fun g w hw => wp_ret (h.go g w hw)
theorem go_exit {id : Nat} (h : GoX w0 Bs (.exit id) n ds L H Q) : GoC w0 Bs P (.exit id) n ds L H Q := .mk fun g w hw => wp_exit (h.go g w hw)
theorem go_reg {id : Nat} {l : List Oper} (h : GoL w0 Bs P l.toArray n (fun s w => Q .normal (mkA n s ds) w) l L H) : GoC w0 Bs P (.region id l.toArray false) n ds L H Q := .mk fun g w hw => region_F (h.go g w hw)
theorem go_nil (h : GoX w0 Bs .normal n ds L H Q) : GoL w0 Bs P ops n (fun s w => Q .normal (mkA n s ds) w) [] L H := ⟨h.go⟩
/- where an exit leads -/
theorem xt_n (h : GoC w0 Bs P y n ds L H Q) : GoX w0 Bs .normal n ds L H (Exit.then (y.wp P Q) Q) := ⟨h.go⟩
theorem xt_e {R : Act → World → Prop} {id : Nat} (h : GoX w0 Bs (.exit id) n ds L H Q) : GoX w0 Bs (.exit id) n ds L H (Exit.then R Q) := ⟨h.go⟩
theorem xt_r {R : Act → World → Prop} (h : GoX w0 Bs .ret n ds L H Q) : GoX w0 Bs .ret n ds L H (Exit.then R Q) := ⟨h.go⟩
theorem xb_n {id : Nat} (h : GoX w0 Bs .normal n ds L H Q) : GoX w0 Bs .normal n ds L H (Exit.inBlock id Q) := ⟨h.go⟩
theorem xb_r {id : Nat} (h : GoX w0 Bs .ret n ds L H Q) : GoX w0 Bs .ret n ds L H (Exit.inBlock id Q) := ⟨h.go⟩
theorem xb_e {id : Nat} (h : GoX w0 Bs .normal n ds L H Q) : GoX w0 Bs (.exit id) n ds L H (Exit.inBlock id Q) := .mk fun g w hw => by show (if id = id then _ else _); rw [if_pos rfl]; exact h.go g w hw
theorem xb_o {id k : Nat} (h : GoX w0 Bs (.exit k) n ds L H Q) (hk : ¬ k = id) : GoX w0 Bs (.exit k) n ds L H (Exit.inBlock id Q) := .mk fun g w hw => by show (if k = id then _ else _); rw [if_neg hk]; exact h.go g w hw
/- a test -/
theorem go_if {t : Nat} {e : Bool} {p q : Prop} (h1 : p → GoC w0 Bs P x n ds L H Q) (h2 : q → GoC w0 Bs P y n ds L H Q) (hc : At L t (.bool e) := by intro g; simp only [tab_cons, Nat.reduceEqDiff, ↓reduceIte]; rfl) (ht : t < n := by decide)
    (hp : (e = true) = p := by first | (simp only [decide_eq_true_eq, Bool.and_eq_true, Bool.or_eq_true, Bool.not_eq_true', decide_eq_false_iff_not, beq_iff_eq, bne_iff_ne, ne_eq]; rfl) | rfl) (hq : (e = false) = q := by first | (simp only [decide_eq_false_iff_not, Bool.and_eq_false_iff, Bool.or_eq_false_iff, Bool.not_eq_false', decide_eq_true_eq, beq_eq_false_iff_ne, bne_eq_false_iff_eq, ne_eq, Int.not_lt, Int.not_le]; rfl) | rfl) : GoC w0 Bs P (.cond (.tmp t) x y) n ds L H Q := .mk fun g w hw =>
  cond_F e (by rw [evF_tmp, if_pos ht]; exact hc g) (by cases e with
    | true => exact (h1 (hp ▸ rfl)).go g w hw
    | false => exact (h2 (hq ▸ rfl)).go g w hw)
theorem go_tf {t : Nat} (k : ∃ v, At L t v ∧ t < n ∧ ((v = .bool true ∧ GoC w0 Bs P x n ds L H Q) ∨ (v = .bool false ∧ GoC w0 Bs P y n ds L H Q))) : GoC w0 Bs P (.cond (.tmp t) x y) n ds L H Q := .mk fun g w hw => by
  obtain ⟨v, hc, ht, ⟨hv, h⟩ | ⟨hv, h⟩⟩ := k
  · exact cond_F true (by rw [evF_tmp, if_pos ht]; exact (hc g).trans hv) (h.go g w hw)
  · exact cond_F false (by rw [evF_tmp, if_pos ht]; exact (hc g).trans hv) (h.go g w hw)
end

section
variable {w0 : World} {Bs : List Nat} {P : Program} {n : Nat} {L : List (Nat × Value)} {H : List En} {ops : Array Oper} {K : (Nat → Value) → World → Prop} {os : List Oper} {v : Value} {d : Nat} {op : Op} {ty : TypeId} {pos : String} {af : Array Edge} {gd : Option (Nat × Bool)}
theorem uponF_value' (P : Program) (K : Value → World → Prop) (v : Value) (w : World) : uponF P K (.ok (.value v) w) = K v w := rfl
def isVC : Op → Bool
  | .call c => match c.callee with | .value _ => true | _ => false
  | _ => false
/-- the values of slots -/
theorem Ex.q (hq : isVC op = false := by rfl) (h : ∀ g w (R : Result Next → Prop), R (.ok (.value v) w) → R ((execOp (evF n (tab L g)) ⟨some d, op, ty, pos, af, gd⟩).run P w) := by intro g w R hR; go_simp; (try go_bits); exact hR) : Ex w0 Bs P n ⟨some d, op, ty, pos, af, gd⟩ L H v :=
  fun g w _ => h g w (fun r => r = .ok (.value v) w) rfl
theorem exec_callv {ρ : Operand → Value} {x : Operand} {f : FuncId} {first cap : Array Value} {xs : Array Operand} {ats : Array TypeId} {dst : Option Tmp} (hx : ρ x = .func (.func f) first cap) :
    execOp ρ ⟨dst, .call { callee := .value x, args := xs, argTypes := ats }, ty, pos, af, gd⟩ = callFunc f (first ++ xs.map ρ ++ cap) := by
  show (Deferred.ofValue (ρ x) (xs.map ρ)).bind (fun d => invoke d.target d.args) = _
  rw [hx]; rfl
theorem Cl.q {x : Operand} {f : FuncId} {first cap args : Array Value} {xs : Array Operand} {ats : Array TypeId} {dst : Option Tmp} (hx : ∀ g, evF n (tab L g) x = .func (.func f) first cap := by intro g; simp only [evF_tmp, evF_func, tab_cons, Nat.reduceLT, Nat.reduceEqDiff, ↓reduceIte]; rfl)
    (ha : ∀ g, first ++ xs.map (evF n (tab L g)) ++ cap = args := by intro g; simp only [List.map_toArray, List.map_cons, List.map_nil, evF_tmp, evF_const, evF_func, tab_cons, Nat.reduceLT, Nat.reduceEqDiff, ↓reduceIte, List.append_toArray, List.nil_append, List.append_nil, List.cons_append]; (try rfl))
    (hcf : ∀ args w (R : Result Next → Prop), R (.ok (.enter f args) w) → R ((callFunc f args).run P w) := by intro args w R hR; go_simp; exact hR) : Cl P n ⟨dst, .call { callee := .value x, args := xs, argTypes := ats }, ty, pos, af, gd⟩ L f args :=
  fun g w => by rw [exec_callv (hx g), ha g]; exact hcf args w (fun r => r = _) rfl
theorem GoL.q (k : ∃ v, Ex w0 Bs P n ⟨some d, op, ty, pos, af, none⟩ L H v ∧ GoL w0 Bs P ops n K os ((d, v) :: L) H) : GoL w0 Bs P ops n K (⟨some d, op, ty, pos, af, none⟩ :: os) L H := by
  obtain ⟨v, h, hr⟩ := k
  exact .mk fun g w hw => listF_step rfl fun K' hK => by unfold opF; rw [h g w hw]; exact hK _ _ (hr.go g w hw)
/-- an operation under a guard -/
inductive Gd (yes no : Prop) (b : Bool) : Value → Prop
  | yes : yes → Gd yes no b (.bool b)
  | no {b' : Bool} : no → (b' == b) = false → Gd yes no b (.bool b')
  | un : no → Gd yes no b undef
theorem GoL.g {j : Nat} {b : Bool} (k : ∃ t v, (ops[j]?).bind (·.dst) = some t ∧ t < n ∧ At L t v ∧ Gd (GoL w0 Bs P ops n K (⟨some d, op, ty, pos, af, none⟩ :: os) L H) (GoL w0 Bs P ops n K os ((d, undef) :: L) H) b v) :
    GoL w0 Bs P ops n K (⟨some d, op, ty, pos, af, some (j, b)⟩ :: os) L H := .mk fun g w hw => by
  obtain ⟨t, v, hd, hn, hs, hg⟩ := k
  cases hg with
  | yes h =>
    have h1 := h.go g w hw
    unfold listF at h1 ⊢
    rw [if_pos (by rw [wanted_F (b' := b) rfl hd hn (hs g)]; simp)]
    rw [if_pos (by simp [Region.wanted])] at h1
    exact h1
  | no h hb => exact listF_no rfl hd hn (hs g) hb (h.go g w hw)
  | un h => exact listF_nu rfl hd hn (hs g) (h.go g w hw)
theorem GoL.sp {o : Oper} {j t : Nat} {b e : Bool} {p q : Prop} (ht : p → GoL w0 Bs P ops n K (o :: os) ((t, .bool true) :: L) H) (hf : q → GoL w0 Bs P ops n K (o :: os) ((t, .bool false) :: L) H) (hg : o.guard = some (j, b) := by rfl) (hd : (ops[j]?).bind (·.dst) = some t := by rfl)
    (hs : At L t (.bool e) := by intro g; simp only [tab_cons, Nat.reduceEqDiff, ↓reduceIte]; rfl)
    (hp : (e = true) = p := by first | (simp only [decide_eq_true_eq, Bool.and_eq_true, Bool.or_eq_true, Bool.not_eq_true', decide_eq_false_iff_not, beq_iff_eq, bne_iff_ne, ne_eq]; rfl) | rfl) (hq : (e = false) = q := by first | (simp only [decide_eq_false_iff_not, Bool.and_eq_false_iff, Bool.or_eq_false_iff, Bool.not_eq_false', decide_eq_true_eq, beq_eq_false_iff_ne, bne_eq_false_iff_eq, ne_eq, Int.not_lt, Int.not_le]; rfl) | rfl) : GoL w0 Bs P ops n K (o :: os) L H := .mk fun g w hw => by
  cases e with
  | true => have := (ht (hp ▸ rfl)).go g w hw; rwa [tab_same (hs g)] at this
  | false => have := (hf (hq ▸ rfl)).go g w hw; rwa [tab_same (hs g)] at this
/-- a new block -/
theorem GoL.a {l : List Value} {T : TypeId} (hr : ∀ b, GoL w0 Bs P ops n K os ((d, .pointer (some ⟨b, 0, none⟩)) :: L) (.cells b l :: H))
    (h : ∀ g w (R : Result Next → Prop), R (.ok (.value (.pointer (some ⟨w.heap.size, 0, none⟩))) (w.alloc (.cells l.toArray T))) → R ((execOp (evF n (tab L g)) ⟨some d, op, ty, pos, af, none⟩).run P w) := by intro g w R hR; go_simp; exact hR) : GoL w0 Bs P ops n K (⟨some d, op, ty, pos, af, none⟩ :: os) L H :=
  .mk fun g w hw => listF_step rfl fun K' hK => by unfold opF; exact h g w (uponF P K') (hK _ _ ((hr _).go g _ (hw.new New.cells)))
theorem GoL.as {l : List Value} {T : TypeId} {k c : Nat} (hr : ∀ b, GoL w0 Bs P ops n K os ((d, .slice (some ⟨b, 0, none⟩) k c) :: L) (.cells b l :: H))
    (h : ∀ g w (R : Result Next → Prop), R (.ok (.value (.slice (some ⟨w.heap.size, 0, none⟩) k c)) (w.alloc (.cells l.toArray T))) → R ((execOp (evF n (tab L g)) ⟨some d, op, ty, pos, af, none⟩).run P w) := by intro g w R hR; go_simp; exact hR) : GoL w0 Bs P ops n K (⟨some d, op, ty, pos, af, none⟩ :: os) L H :=
  .mk fun g w hw => listF_step rfl fun K' hK => by unfold opF; exact h g w (uponF P K') (hK _ _ ((hr _).go g _ (hw.new New.cells)))
/-- what a call answers -/
def Ret {X : Type} (val : X → Value) (E : X → List En) (w : World) : Ending → World → Prop := fun e w' => ∃ x, e = .returned (val x) ∧ New w w' (E x)
theorem GoL.c {f : FuncId} {args : Array Value} {X : Type} {val : X → Value} {E : X → List En} (hc : ∀ w, Mem w0 Bs H w → Calls P f args w (Ret val E w)) (hr : ∀ x, GoL w0 Bs P ops n K os ((d, val x) :: L) (E x ++ H)) (h : Cl P n ⟨some d, op, ty, pos, af, none⟩ L f args := by exact Cl.q) : GoL w0 Bs P ops n K (⟨some d, op, ty, pos, af, none⟩ :: os) L H :=
  .mk fun g w hw => listF_step rfl fun K' hK => by
    unfold opF; rw [h g w]; exact (hc w hw).mono fun e w' ⟨x, he, hn⟩ => ⟨_, he, hK _ _ ((hr x).go g w' (hw.new hn))⟩
theorem GoL.cv {f : FuncId} {args : Array Value} (hc : ∀ w, Mem w0 Bs H w → Calls P f args w (fun e w' => e = .returned v ∧ Below w.heap.size w w')) (hr : GoL w0 Bs P ops n K os ((d, v) :: L) H) (h : Cl P n ⟨some d, op, ty, pos, af, none⟩ L f args := by exact Cl.q) : GoL w0 Bs P ops n K (⟨some d, op, ty, pos, af, none⟩ :: os) L H :=
  .mk fun g w hw => listF_step rfl fun K' hK => by
    unfold opF; rw [h g w]; exact (hc w hw).mono fun e w' ⟨he, hn⟩ => ⟨_, he, hK _ _ (hr.go g w' (hw.call hn))⟩
theorem GoL.cs {f : FuncId} {args : Array Value} (hc : ∀ w, Mem w0 Bs H w → Calls P f args w (fun e w' => e = .returned v ∧ w = w')) (hr : GoL w0 Bs P ops n K os ((d, v) :: L) H) (h : Cl P n ⟨some d, op, ty, pos, af, none⟩ L f args := by exact Cl.q) : GoL w0 Bs P ops n K (⟨some d, op, ty, pos, af, none⟩ :: os) L H :=
  GoL.cv (fun w hw => (hc w hw).mono fun e w' ⟨he, hn⟩ => ⟨he, hn ▸ Below.refl _ _⟩) hr h
end
end

section
set_option linter.all false
open Go.RowKit

section
variable {P : Program}
theorem add_none (b o j : Nat) : (⟨b, o, none⟩ : Addr).add j = ⟨b, o + j, none⟩ := by
  unfold Addr.add; split
  · rename_i h; subst h; rfl
  · rfl
/-- a variable of type T whose cells begin as l holds v -/
def LoadV (P : Program) (T : TypeId) (l : List Value) (v : Value) : Prop := ∀ (w : World) (a : Addr), (∀ j u, l[j]? = some u → w.cell? (a.add j) = some u) → (loadVar T a).run P w = .ok v w
theorem run_loadCells {w : World} {a : Addr} : ∀ (m i : Nat) (acc : Array Value) (l : List Value), m ≤ l.length → (∀ j u, l[j]? = some u → w.cell? (a.add (i + j)) = some u) → (loadCellsFrom a i m acc).run P w = .ok (acc ++ (l.take m).toArray) w
  | 0, i, acc, l, _, _ => by simp [loadCellsFrom]
  | m + 1, i, acc, [], h, _ => by simp at h
  | m + 1, i, acc, u :: l, h, hc => by
    have h0 := hc 0 u (by simp)
    have ih := run_loadCells (w := w) (a := a) m (i + 1) (acc.push u) l (by simpa using h) (fun j x hj => by have := hc (j + 1) x (by simpa using hj); rw [show i + 1 + j = i + (j + 1) by omega]; exact this)
    simp only [Nat.add_zero] at h0
    simp only [loadCellsFrom, Sem.run_bind]
    have hl : (load (a.add i)).run P w = .ok u w := by simp [load, Sem.run, h0]
    rw [hl]
    simp only [Result.andThen_ok]
    rw [ih]
    simp
theorem LoadV.one {T : TypeId} {v : Value} {l : List Value} (h : ∀ w (R : Result Bool → Prop), R (.ok false w) → R ((isAgg T).run P w) := by intro w R hR; go_simp; exact hR) : LoadV P T (v :: l) v := fun w a hc => by
  have h0 := hc 0 v (by simp)
  have h0' : w.cell? a = some v := by simpa [Addr.add] using h0
  unfold loadVar
  simp only [Sem.run_bind]
  rw [h w (fun r => r = _) rfl]
  simp [load, Sem.run, h0']
theorem LoadV.agg {T : TypeId} {m : Nat} {arr : Array Value} {l : List Value} (h : ∀ w (R : Result Bool → Prop), R (.ok true w) → R ((isAgg T).run P w) := by intro w R hR; go_simp; exact hR) (hs : ∀ w (R : Result Nat → Prop), R (.ok m w) → R ((sizeOf T).run P w) := by intro w R hR; go_simp; exact hR) (hl : m ≤ l.length := by simp)
    (ha : (l.take m).toArray = arr := by first | (simp only [List.take_succ_cons, List.take_zero, List.drop_succ_cons, List.drop_zero]; rfl) | (simp; rfl)) : LoadV P T l (.agg arr) := fun w a hc => by
  unfold loadVar
  simp only [Sem.run_bind]
  rw [h w (fun r => r = _) rfl]
  simp only [Result.andThen_ok, if_true, Sem.run_bind]
  rw [hs w (fun r => r = _) rfl]
  simp only [Result.andThen_ok]
  unfold loadCells
  rw [run_loadCells (P := P) (w := w) (a := a) m 0 #[] l hl (fun j u hj => by rw [Nat.zero_add]; exact hc j u hj)]
  simp [ha]
def bk (a : Option Addr) : Nat := (a.getD ⟨0, 0, none⟩).block
def fo (a : Option Addr) : Nat := (a.getD ⟨0, 0, none⟩).off
/-- where cell o of element i of the list at a lies, elements of m cells -/
def rowE (a : Option Addr) (i m o : Nat) : Value := .pointer (some ⟨bk a, fo a + i * m + o, none⟩)
theorem Rd.shape {α : Type} {f : α → List Value} {m : Nat} {w : World} {a : Option Addr} {l : List α} (h : Rd f m w a l) {i : Nat} (hi : i < l.length) : a = some ⟨bk a, fo a, none⟩ := by
  obtain ⟨b, off, rfl, _⟩ := h.ne hi; rfl
theorem Rd.elem {α : Type} {f : α → List Value} {m : Nat} {w : World} {a : Option Addr} {l : List α} (h : Rd f m w a l) {i : Nat} {e : α} (hi : l[i]? = some e) {j : Nat} {v : Value} (hj : (f e)[j]? = some v) : w.cell? ⟨bk a, fo a + i * m + j, none⟩ = some v := by
  obtain ⟨hlt, rfl⟩ := List.getElem?_eq_some_iff.1 hi
  obtain ⟨b, off, rfl, _, hc⟩ := h.ne hlt; exact hc j v hj
/-- where a[k:] begins -/
def sfA (a : Option Addr) (k m c : Nat) : Option Addr := if c = k then a else a.map fun x => x.add (k * m)
theorem Rd.drop {α : Type} {f : α → List Value} {m : Nat} {w : World} {a : Option Addr} {l : List α} (h : Rd f m w a l) (k : Nat) {c : Nat} (hc : l.length ≤ c) : Rd f m w (sfA a k m c) (l.drop k) := by
  unfold sfA
  split
  · exact .inl (List.drop_eq_nil_of_le (by omega))
  · rcases h with h | ⟨b, off, rfl, hb, h⟩
    · exact .inl (by rw [h]; simp)
    · refine .inr ⟨b, off + k * m, by simp [add_none], hb, fun i x hi j v hj => ?_⟩
      rw [List.getElem?_drop] at hi
      have := h (k + i) x hi j v hj
      rw [Nat.add_mul] at this
      rw [show off + k * m + i * m + j = off + (k * m + i * m) + j by omega]; exact this
theorem Rd.take {α : Type} {f : α → List Value} {m : Nat} {w : World} {a : Option Addr} {l : List α} (h : Rd f m w a l) (k : Nat) : Rd f m w a (l.take k) := by
  rcases h with h | ⟨b, off, rfl, hb, h⟩
  · exact .inl (by rw [h]; simp)
  · exact .inr ⟨b, off, rfl, hb, fun i x hi j v hj => h i x (by rw [List.getElem?_take] at hi; split at hi; exact hi; cases hi) j v hj⟩
end
section
variable {w0 : World} {Bs : List Nat} {P : Program} {n : Nat} {L : List (Nat × Value)} {H H' : List En}
/-- a list that can be read: an old one, one of the entries, or a part of these -/
theorem see {α : Type} {f : α → List Value} {m : Nat} {a : Option Addr} {l : List α} (h : ∀ w, Mem w0 Bs H w → Rd f m w a l := by
    first
    | exact fun w hw => hw.old (by assumption) | exact fun w hw => hw.rd pk | exact fun w hw => (hw.own pk).rd' (fun _ => rfl) rfl
    | exact fun w hw => Rd.drop (hw.old (by assumption)) _ (by omega) | exact fun w hw => Rd.drop (hw.rd pk) _ (by omega) | exact fun w hw => Rd.drop ((hw.own pk).rd' (fun _ => rfl) rfl) _ (hw.own pk).cap
    | exact fun w hw => Rd.take (hw.old (by assumption)) _ | exact fun w hw => Rd.take (hw.rd pk) _ | exact fun w hw => Rd.take ((hw.own pk).rd' (fun _ => rfl) rfl) _) : ∀ w, Mem w0 Bs H w → Rd f m w a l := h
end
section
variable {w0 : World} {Bs : List Nat} {P : Program} {n : Nat} {L : List (Nat × Value)} {H H' : List En} {ops : Array Oper} {K : (Nat → Value) → World → Prop} {os : List Oper} {u v : Value} {d : Nat} {op : Op} {T ty : TypeId} {pos : String} {af : Array Edge} {gd : Option (Nat × Bool)} {x y : Operand}
theorem Ex.ld {b off : Nat} {l : List Value} (hx : ∀ g, evF n (tab L g) x = .pointer (some ⟨b, off, none⟩) := by intro g; simp only [evF_tmp, tab_cons, Nat.reduceLT, Nat.reduceEqDiff, ↓reduceIte]; rfl)
    (hc : ∀ w, Mem w0 Bs H w → Cells w b l := by first | exact fun w hw => hw.cells pk | exact fun w hw => hw.oldC (by assumption))
    (hv : LoadV P T (l.drop off) v := by (try simp only [List.drop_succ_cons, List.drop_zero]); first | exact LoadV.one | exact LoadV.agg) : Ex w0 Bs P n ⟨some d, .load T x, ty, pos, af, gd⟩ L H v := fun g w hw => by
  have h1 := hv w ⟨b, off, none⟩ (fun j u hj => by rw [add_none]; exact (hc w hw).2.1 (off + j) u (by rw [List.getElem?_drop] at hj; exact hj))
  simp only [execOp, Instr.loadAt, Instr.sureAddr, hx g, Sem.run_bind, Sem.run_pure, Result.andThen_ok, h1]
theorem Ex.rl {α : Type} {f : α → List Value} {m : Nat} {a : Option Addr} {l : List α} {i o : Nat} {e : α} (hx : ∀ g, evF n (tab L g) x = rowE a i m o := by intro g; simp only [evF_tmp, tab_cons, Nat.reduceLT, Nat.reduceEqDiff, ↓reduceIte]; rfl)
    (hc : ∀ w, Mem w0 Bs H w → Rd f m w a l := by exact see)
    (hi : l[i]? = some e := by first | exact lx_some (by omega) | exact lx_some (by simp only [List.length_drop, List.length_take]; omega)) (hv : LoadV P T ((f e).drop o) v := by (try simp only [List.drop_succ_cons, List.drop_zero]); first | exact LoadV.one | exact LoadV.agg) : Ex w0 Bs P n ⟨some d, .load T x, ty, pos, af, gd⟩ L H v := fun g w hw => by
  have h1 := hv w ⟨bk a, fo a + i * m + o, none⟩ (fun j u hj => by
    have := (hc w hw).elem hi (j := o + j) (v := u) (by rw [List.getElem?_drop] at hj; exact hj)
    rw [add_none, Nat.add_assoc]; exact this)
  simp only [execOp, Instr.loadAt, Instr.sureAddr, hx g, rowE, Sem.run_bind, Sem.run_pure, Result.andThen_ok, h1]
theorem Ex.ix {α : Type} {f : α → List Value} {m : Nat} {a : Option Addr} {c : Nat} {l : List α} {i : Nat} {k : IntKind} {z : Int} {e : TypeId} (hx : ∀ g, evF n (tab L g) x = .slice a l.length c := by intro g; simp only [evF_tmp, tab_cons, Nat.reduceLT, Nat.reduceEqDiff, ↓reduceIte]; rfl)
    (hc : ∀ w, Mem w0 Bs H w → Rd f m w a l := by exact see)
    (hy : ∀ g, evF n (tab L g) y = .int k z := by intro g; simp only [evF_tmp, evF_const, tab_cons, Nat.reduceLT, Nat.reduceEqDiff, ↓reduceIte]; rfl)
    (hi : z.toNat = i := by (try simp only [Int.toNat_natCast, Int.reduceToNat]); rfl) (hb : 0 ≤ z ∧ z < (l.length : Int) := by first | omega | (simp only [List.length_drop, List.length_take]; omega))
    (ht : ∀ w (R : Result TypeDesc → Prop), R (.ok (.slice e) w) → R ((underlying T).run P w) := by intro w R hR; go_simp; exact hR) (hs : ∀ w (R : Result Nat → Prop), R (.ok m w) → R ((sizeOf e).run P w) := by intro w R hR; go_simp; exact hR) : Ex w0 Bs P n ⟨some d, .indexAddr T x y, ty, pos, af, gd⟩ L H (rowE a i m 0) := fun g w hw => by
  have hi2 : z.toNat < l.length := by omega
  have ha := (hc w hw).shape hi2
  subst hi
  obtain ⟨b, off, rfl⟩ : ∃ b off, a = some ⟨b, off, none⟩ := ⟨_, _, ha⟩
  simp only [execOp, Instr.indexAt, asIntOf, hx g, hy g, Sem.run_bind, Sem.run_pure, Result.andThen_ok, ht w (fun r => r = _) rfl, hs w (fun r => r = _) rfl, hb, and_self, if_true, rowE, add_none, bk, fo, Option.getD_some, Nat.add_zero]
theorem Ex.fr {a : Option Addr} {i m o o' off : Nat} {k : Nat} (hx : ∀ g, evF n (tab L g) x = rowE a i m o := by intro g; simp only [evF_tmp, tab_cons, Nat.reduceLT, Nat.reduceEqDiff, ↓reduceIte]; rfl)
    (hf : ∀ w bb oo (R : Result Value → Prop), R (.ok (.pointer (some ⟨bb, oo + off, none⟩)) w) → R ((Instr.fieldAt T (.pointer (some ⟨bb, oo, none⟩)) k).run P w) := by intro w bb oo R hR; go_simp; exact hR) (ho : o + off = o' := by simp only [Nat.reduceAdd]; rfl) : Ex w0 Bs P n ⟨some d, .fieldAddr T x k, ty, pos, af, gd⟩ L H (rowE a i m o') := fun g w hw => by
  simp only [execOp, hx g, rowE, Sem.run_bind, Sem.run_pure, Result.andThen_ok, hf _ _ _ (fun r => r = _) rfl, ← ho, Nat.add_assoc]

theorem Ex.fr0 {a : Option Addr} {i m o : Nat} {k : Nat} (hx : ∀ g, evF n (tab L g) x = rowE a i m o := by intro g; simp only [evF_tmp, tab_cons, Nat.reduceLT, Nat.reduceEqDiff, ↓reduceIte]; rfl)
    (hf : ∀ w A (R : Result Value → Prop), R (.ok (.pointer (some A)) w) → R ((Instr.fieldAt T (.pointer (some A)) k).run P w) := by intro w A R hR; go_simp; exact hR) : Ex w0 Bs P n ⟨some d, .fieldAddr T x k, ty, pos, af, gd⟩ L H (rowE a i m o) := fun g w hw => by
  simp only [execOp, hx g, rowE, Sem.run_bind, Sem.run_pure, Result.andThen_ok, hf _ _ (fun r => r = _) rfl]

/- parts of lists -/
theorem Ex.sl {α : Type} {l : List α} {a : Option Addr} {c k m : Nat} {kd : IntKind} {z : Int} {e : TypeId} (hx : ∀ g, evF n (tab L g) x = .slice a l.length c := by intro g; simp only [evF_tmp, tab_cons, Nat.reduceLT, Nat.reduceEqDiff, ↓reduceIte]; rfl)
    (hy : ∀ g, evF n (tab L g) y = .int kd z := by intro g; simp only [evF_tmp, evF_const, tab_cons, Nat.reduceLT, Nat.reduceEqDiff, ↓reduceIte]; rfl)
    (hi : z.toNat = k := by (try simp only [Int.toNat_natCast, Int.reduceToNat]); rfl) (hb : 0 ≤ z ∧ z ≤ (l.length : Int) := by first | omega | (simp only [List.length_drop, List.length_take]; omega))
    (ht : ∀ w (R : Result TypeDesc → Prop), R (.ok (.slice e) w) → R ((underlying T).run P w) := by intro w R hR; go_simp; exact hR) (hs : ∀ w (R : Result Nat → Prop), R (.ok m w) → R ((sizeOf e).run P w) := by intro w R hR; go_simp; exact hR) :
    Ex w0 Bs P n ⟨some d, .slice T x (some y) none none, ty, pos, af, gd⟩ L H (.slice (sfA a k m c) (l.drop k).length (c - k)) := fun g w hw => by
  subst hi
  have hb2 : 0 ≤ z ∧ z ≤ ((l.length : Nat) : Int) := hb
  have hn : evF n (tab L g) x = .slice a l.length c := hx g
  simp only [execOp, Instr.sliceAt, Instr.slice, Instr.sliceBounds, Instr.sliceBound, asIntOf, hn, hy g, Option.map_some, Option.map_none, Sem.run_bind, Sem.run_pure, Result.andThen_ok, ht w (fun r => r = _) rfl, hs w (fun r => r = _) rfl, hb2, and_self, if_true, sfA, List.length_drop]
theorem Ex.sh {α : Type} {l : List α} {a : Option Addr} {c k m : Nat} {kd : IntKind} {z : Int} {e : TypeId} (hx : ∀ g, evF n (tab L g) x = .slice a l.length c := by intro g; simp only [evF_tmp, tab_cons, Nat.reduceLT, Nat.reduceEqDiff, ↓reduceIte]; rfl)
    (hy : ∀ g, evF n (tab L g) y = .int kd z := by intro g; simp only [evF_tmp, evF_const, tab_cons, Nat.reduceLT, Nat.reduceEqDiff, ↓reduceIte]; rfl)
    (hi : z.toNat = k := by (try simp only [Int.toNat_natCast, Int.reduceToNat]); rfl) (hb : 0 ≤ z ∧ z ≤ (l.length : Int) := by first | omega | (simp only [List.length_drop, List.length_take]; omega)) (hc : ∀ w, Mem w0 Bs H w → l.length ≤ c := by first | exact fun w hw => (hw.own pk).cap | exact fun _ _ => (by assumption) | exact fun _ _ => (by omega))
    (ht : ∀ w (R : Result TypeDesc → Prop), R (.ok (.slice e) w) → R ((underlying T).run P w) := by intro w R hR; go_simp; exact hR) (hs : ∀ w (R : Result Nat → Prop), R (.ok m w) → R ((sizeOf e).run P w) := by intro w R hR; go_simp; exact hR) :
    Ex w0 Bs P n ⟨some d, .slice T x none (some y) none, ty, pos, af, gd⟩ L H (.slice a (l.take k).length c) := fun g w hw => by
  subst hi
  have h9 := hc w hw
  have hb2 : 0 ≤ z ∧ z ≤ ((c : Nat) : Int) := by omega
  have hmin : min z.toNat l.length = z.toNat := by omega
  have hn : evF n (tab L g) x = .slice a l.length c := hx g
  have ha : (if c = 0 then a else a.map fun x => x.add 0) = a := by split; rfl; cases a <;> rfl
  simp only [execOp, Instr.sliceAt, Instr.slice, Instr.sliceBounds, Instr.sliceBound, asIntOf, hn, hy g, Option.map_some, Option.map_none, Sem.run_bind, Sem.run_pure, Result.andThen_ok, ht w (fun r => r = _) rfl, hs w (fun r => r = _) rfl, hb2, and_self, if_true, List.length_take, hmin, Nat.zero_mul, ha, Nat.sub_zero]

/- stores -/
def setLs : List Value → Nat → List Value → List Value
  | l, _, [] => l
  | l, off, v :: vs => setLs (l.set off v) (off + 1) vs
theorem setLs_len : ∀ (vs l : List Value) (off : Nat), (setLs l off vs).length = l.length
  | [], _, _ => rfl
  | v :: vs, l, off => by show (setLs (l.set off v) (off + 1) vs).length = _; rw [setLs_len vs]; simp
theorem Only.trans {b : Nat} {w w' w'' : World} (h : Only b w w') (k : Only b w' w'') : Only b w w'' := ⟨k.os.trans h.os, k.tape.trans h.tape, k.output.trans h.output, k.size.trans h.size, fun j hj => (k.block j hj).trans (h.block j hj)⟩
theorem only_set (w : World) (b o : Nat) (u : Value) : Only b w (w.setCell ⟨b, o, none⟩ u) :=
  ⟨rfl, rfl, rfl, by simp [World.setCell], fun k hk => by simp only [World.setCell]; rw [Array.getElem?_modify, if_neg (fun e => hk e.symm)]⟩
theorem run_storeCells {b off : Nat} : ∀ (vs : List Value) (i : Nat) (w : World) (l : List Value), Cells w b l → off + i + vs.length ≤ l.length → (∀ v ∈ vs, v.oneCell' = true) →
    ∃ w', (storeCells ⟨b, off, none⟩ vs i).run P w = .ok () w' ∧ Only b w w' ∧ Cells w' b (setLs l (off + i) vs)
  | [], i, w, l, hc, _, _ => ⟨w, rfl, Only.refl _ _, hc⟩
  | v :: vs, i, w, l, hc, hl, ho => by
    have h0 := ho v (by simp)
    simp only [List.length_cons] at hl
    have hcell : w.cell? ⟨b, off + i, none⟩ = some (l[off + i]'(by omega)) := hc.cell (off + i) (List.getElem?_eq_getElem (by omega))
    have hfr : w.frozen? ⟨b, off + i, none⟩ = false := hc.2.2 _
    obtain ⟨w', h1, h2, h3⟩ := run_storeCells (off := off) vs (i + 1) (w.setCell ⟨b, off + i, none⟩ v) (l.set (off + i) v) hc.set (by rw [List.length_set]; omega) (fun u hu => ho u (by simp [hu]))
    refine ⟨w', ?_, (only_set w b (off + i) v).trans h2, by simpa [setLs, Nat.add_assoc] using h3⟩
    rw [← h1]
    simp only [storeCells, Sem.run_bind]
    have : (store ((⟨b, off, none⟩ : Addr).add i) v).run P w = .ok () (w.setCell ⟨b, off + i, none⟩ v) := by
      cases v <;> first | (simp [Value.oneCell'] at h0; done) | simp [store, Sem.run, add_none, hcell, hfr]
    rw [this]; rfl
theorem Mem.only {b : Nat} {l l' : List Value} {w w' : World} (h : Mem w0 Bs H w) (p : Rep (.cells b l) (.cells b l') H H') (ho : Only b w w') (hc : Cells w' b l') : Mem w0 Bs H' w' :=
  h.rep p fun S hx hlt => ⟨ho.os, ho.tape, ho.output, by rw [ho.size]; exact Nat.le_refl _, fun k hk hn => ho.block k (fun e => hn (e ▸ hx.1)), ⟨.inl hx.1, hc.1⟩, hc⟩
theorem GoL.st (k : ∃ b off l l' vs m u H', (∀ g, evF n (tab L g) x = .pointer (some ⟨b, off, none⟩)) ∧ (∀ g, evF n (tab L g) y = u) ∧ u.cells.toList = vs ∧ (∀ w (R : Result Nat → Prop), R (.ok m w) → R ((sizeOf T).run P w)) ∧ m = vs.length ∧
    Rep (.cells b l) (.cells b l') H H' ∧ setLs l off vs = l' ∧ (∀ v ∈ vs, v.oneCell' = true) ∧ off + vs.length ≤ l.length ∧ GoL w0 Bs P ops n K os L H') : GoL w0 Bs P ops n K (⟨none, .store T x y, ty, pos, af, none⟩ :: os) L H := by
  obtain ⟨b, off, l, l', vs, m, u, H', hx, hy, hu, hs, hm, hp, hl, ho, hlen, hr⟩ := k
  exact .mk fun g w hw => listF_step rfl fun K' hK => by
    obtain ⟨K2, p1, p2⟩ := hp.split
    have hc : Cells w b l := by obtain ⟨S, hx, _⟩ := (hw.perm p1).head; exact hx.2
    obtain ⟨w', h1, h2, h3⟩ := run_storeCells (P := P) (off := off) vs 0 w l hc (by omega) ho
    have hcs : u.cells.size = m := by rw [hm, ← hu]; simp
    have : (execOp (evF n (tab L g)) ⟨none, .store T x y, ty, pos, af, none⟩).run P w = .ok .skip w' := by
      simp only [execOp, Instr.storeAt, Instr.sureAddr, storeVar, hx g, hy g, Sem.run_bind, Sem.run_pure, Result.andThen_ok, hs w (fun r => r = _) rfl, hcs, ne_eq, not_true_eq_false, if_false, hu]
      rw [h1]; rfl
    unfold opF; rw [this]
    refine hK undef w' ?_
    rw [Nat.add_zero, hl] at h3
    exact hr.go g w' (hw.only hp h2 h3)
end
end

section
set_option linter.all false
open Go.RowKit

section
variable {w0 : World} {Bs : List Nat} {P : Program} {fn : Func} {R : Ending → World → Prop} {n : Nat} {L : List (Nat × Value)} {H : List En} {v v1 v2 v3 v4 : Value} {t t1 t2 t3 t4 : Tmp} {x : Exit}
def isEnd : Exit → Bool
  | .ret => true
  | .normal => true
  | _ => false
theorem end_any (hx : isEnd x = true) (h : ∀ g w, Mem w0 Bs H w → ∃ v, (results fn (tmA n (tab L g))).run P w = .ok v w ∧ R (.returned v) w) : GoX w0 Bs x n [] L H (bodyPost P fn R) := .mk fun g w hw => by
  obtain ⟨v, h1, h2⟩ := h g w hw
  cases x <;> first | exact ⟨rfl, v, h1, h2⟩ | cases hx
theorem end0 (h : ∀ w, Mem w0 Bs H w → R (.returned (.tuple #[])) w) (hr : fn.results = #[] := by rfl) (hx : isEnd x = true := by rfl) : GoX w0 Bs x n [] L H (bodyPost P fn R) :=
  end_any hx fun g w hw => ⟨_, res_none hr, h w hw⟩
theorem end1 (h : ∀ w, Mem w0 Bs H w → R (.returned v) w) (hr : fn.results = #[.tmp t] := by rfl) (hv : At L t v := by intro g; simp only [tab_cons, Nat.reduceEqDiff, ↓reduceIte]; (try rfl)) (ht : t < n := by decide) (hx : isEnd x = true := by rfl) : GoX w0 Bs x n [] L H (bodyPost P fn R) :=
  end_any hx fun g w hw => ⟨_, res_t hr ((getD_F ht).trans (hv g)), h w hw⟩
theorem end2 (h : ∀ w, Mem w0 Bs H w → R (.returned (.tuple #[v1, v2])) w) (hr : fn.results = #[.tmp t1, .tmp t2] := by rfl) (hv1 : At L t1 v1 := by intro g; simp only [tab_cons, Nat.reduceEqDiff, ↓reduceIte]; (try rfl)) (hv2 : At L t2 v2 := by intro g; simp only [tab_cons, Nat.reduceEqDiff, ↓reduceIte]; (try rfl)) (ht1 : t1 < n := by decide) (ht2 : t2 < n := by decide) (hx : isEnd x = true := by rfl) : GoX w0 Bs x n [] L H (bodyPost P fn R) :=
  end_any hx fun g w hw => ⟨_, res_tt hr ((getD_F ht1).trans (hv1 g)) ((getD_F ht2).trans (hv2 g)), h w hw⟩
theorem end3 (h : ∀ w, Mem w0 Bs H w → R (.returned (.tuple #[v1, v2, v3])) w) (hr : fn.results = #[.tmp t1, .tmp t2, .tmp t3] := by rfl) (hv1 : At L t1 v1 := by intro g; simp only [tab_cons, Nat.reduceEqDiff, ↓reduceIte]; (try rfl)) (hv2 : At L t2 v2 := by intro g; simp only [tab_cons, Nat.reduceEqDiff, ↓reduceIte]; (try rfl)) (hv3 : At L t3 v3 := by intro g; simp only [tab_cons, Nat.reduceEqDiff, ↓reduceIte]; (try rfl)) (ht1 : t1 < n := by decide) (ht2 : t2 < n := by decide) (ht3 : t3 < n := by decide) (hx : isEnd x = true := by rfl) : GoX w0 Bs x n [] L H (bodyPost P fn R) :=
  end_any hx fun g w hw => ⟨_, res_ttt hr ((getD_F ht1).trans (hv1 g)) ((getD_F ht2).trans (hv2 g)) ((getD_F ht3).trans (hv3 g)), h w hw⟩
theorem end_c {p : Tmp} {T : TypeId} {b : Nat} {l : List Value} (h : ∀ w, Mem w0 Bs H w → R (.returned v) w) (hr : fn.results = #[.cell p T] := by rfl) (hp : At L p (.pointer (some ⟨b, 0, none⟩)) := by intro g; simp only [tab_cons, Nat.reduceEqDiff, ↓reduceIte]; (try rfl)) (hpn : p < n := by decide)
    (hc : ∀ w, Mem w0 Bs H w → Cells w b l := by first | exact fun w hw => hw.cells pk | exact fun w hw => hw.oldC (by assumption)) (hv : LoadV P T l v := by first | exact LoadV.one | exact LoadV.agg) (hx : isEnd x = true := by rfl) : GoX w0 Bs x n [] L H (bodyPost P fn R) :=
  end_any hx fun g w hw => ⟨_, by
    have h1 := hv w ⟨b, 0, none⟩ (fun j u hj => by rw [add_none]; exact (hc w hw).2.1 (0 + j) u (by rw [Nat.zero_add]; exact hj))
    simp [results, hr, hpn, hp g, asAddr, h1], h w hw⟩
theorem fin_v {V : Value} (h : v = V) : ∀ w, Mem w0 [] H w → Ending.returned v = .returned V ∧ Below w0.heap.size w0 w := fun w hw => ⟨by rw [h], hw.below⟩
theorem ev1 {V : Value} (h : v = V) (hr : fn.results = #[.tmp t] := by rfl) (hv : At L t v := by intro g; simp only [tab_cons, Nat.reduceEqDiff, ↓reduceIte]; (try rfl)) (ht : t < n := by decide) (hx : isEnd x = true := by rfl) : GoX w0 [] x n [] L H (bodyPost P fn (fun e w' => e = .returned V ∧ Below w0.heap.size w0 w')) :=
  end1 (fin_v h) hr hv ht hx
theorem ev2 {V1 V2 : Value} (h : v1 = V1 ∧ v2 = V2) (hr : fn.results = #[.tmp t1, .tmp t2] := by rfl) (hv1 : At L t1 v1 := by intro g; simp only [tab_cons, Nat.reduceEqDiff, ↓reduceIte]; (try rfl)) (hv2 : At L t2 v2 := by intro g; simp only [tab_cons, Nat.reduceEqDiff, ↓reduceIte]; (try rfl)) (ht1 : t1 < n := by decide) (ht2 : t2 < n := by decide) (hx : isEnd x = true := by rfl) : GoX w0 [] x n [] L H (bodyPost P fn (fun e w' => e = .returned (.tuple #[V1, V2]) ∧ Below w0.heap.size w0 w')) :=
  end2 (fin_v (by rw [h.1, h.2])) hr hv1 hv2 ht1 ht2 hx
theorem ev3 {V1 V2 V3 : Value} (h : v1 = V1 ∧ v2 = V2 ∧ v3 = V3) (hr : fn.results = #[.tmp t1, .tmp t2, .tmp t3] := by rfl) (hv1 : At L t1 v1 := by intro g; simp only [tab_cons, Nat.reduceEqDiff, ↓reduceIte]; (try rfl)) (hv2 : At L t2 v2 := by intro g; simp only [tab_cons, Nat.reduceEqDiff, ↓reduceIte]; (try rfl)) (hv3 : At L t3 v3 := by intro g; simp only [tab_cons, Nat.reduceEqDiff, ↓reduceIte]; (try rfl)) (ht1 : t1 < n := by decide) (ht2 : t2 < n := by decide) (ht3 : t3 < n := by decide) (hx : isEnd x = true := by rfl) : GoX w0 [] x n [] L H (bodyPost P fn (fun e w' => e = .returned (.tuple #[V1, V2, V3]) ∧ Below w0.heap.size w0 w')) :=
  end3 (fin_v (by rw [h.1, h.2.1, h.2.2])) hr hv1 hv2 hv3 ht1 ht2 ht3 hx
theorem fin_r {X : Type} {val : X → Value} {E : X → List En} (x : X) (h : v = val x) (hs : Sub (E x) H := by exact sb) : ∀ w, Mem w0 [] H w → Ret val E w0 (.returned v) w := fun w hw => ⟨x, by rw [h], hw.done hs⟩
end

section
variable {w0 : World} {Bs : List Nat} {P : Program} {c : Code} {n : Nat} {ds : List Deferred} {L L2 C : List (Nat × Value)} {H H2 : List En} {Q : Exit → Act → World → Prop}
def AgreeL (L : List (Nat × Value)) : List (Nat × Value) → Prop
  | [] => True
  | p :: r => At L p.1 p.2 ∧ AgreeL L r
theorem AgreeL.tab {L : List (Nat × Value)} {g : Nat → Value} : ∀ {M : List (Nat × Value)}, AgreeL L M → tab M (tab L g) = tab L g
  | [], _ => rfl
  | p :: M, h => by
    have ih := AgreeL.tab (g := g) h.2
    show Go.Proofs.YtigehmghcafblaaGreat.tab ((p.1, p.2) :: M) _ = _
    rw [tab_same (by rw [ih]; exact h.1 g), ih]
def keepL (s : Nat → Value) (ks : List Nat) : List (Nat × Value) := ks.map fun t => (t, s t)
@[simp] theorem keepL_nil (s : Nat → Value) : keepL s [] = [] := rfl
@[simp] theorem keepL_cons (s : Nat → Value) (t : Nat) (ks : List Nat) : keepL s (t :: ks) = (t, s t) :: keepL s ks := rfl
/-- only these slots are kept in sight -/
theorem go_cut (ks : List Nat) (h : GoC w0 Bs P c n ds C H Q) (hC : keepL (tab L fun _ => undef) ks = C := by simp only [keepL_cons, keepL_nil, tab_cons, tab_nil, Nat.reduceEqDiff, ↓reduceIte]; rfl)
    (hA : AgreeL L C := by simp only [AgreeL, At, tab_cons, Nat.reduceEqDiff, ↓reduceIte, implies_true, and_self]) : GoC w0 Bs P c n ds L H Q := .mk fun g w hw => by
  have := h.go (tab L g) w hw; rwa [hA.tab] at this
theorem go_sub {K : List En} (h : GoC w0 Bs P c n ds L K Q) (hs : Sub K H) : GoC w0 Bs P c n ds L H Q := .mk fun g w hw => h.go g w (hw.sub hs)
def Again (w0 : World) (Bs : List Nat) (n : Nat) (ds : List Deferred) {X : Type} (I : X → Prop) (μ : X → Nat) (V : X → List (Nat × Value)) (E : X → List En) (C : List (Nat × Value)) (x : X) : Act → World → Prop :=
  fun a' w' => ∃ k' s', a' = mkA n s' ds ∧ k' < μ x ∧ ∃ x', k' = μ x' ∧ I x' ∧ (∃ g, s' = tab (V x' ++ C) g) ∧ Mem w0 Bs (E x') w'
theorem go_loop {X : Type} (I : X → Prop) (μ : X → Nat) (V : X → List (Nat × Value)) (E : X → List En) (x0 : X) (ks : List Nat) (h0 : I x0) (hV : AgreeL L (V x0)) (hE : Sub (E x0) H)
    (round : ∀ x, I x → GoC w0 Bs P c n ds (V x ++ C) (E x) (Exit.then (Again w0 Bs n ds I μ V E C x) Q)) (hC : keepL (tab L fun _ => undef) ks = C := by simp only [keepL_cons, keepL_nil, tab_cons, tab_nil, Nat.reduceEqDiff, ↓reduceIte]; rfl)
    (hA : AgreeL L C := by simp only [AgreeL, At, tab_cons, Nat.reduceEqDiff, ↓reduceIte, implies_true, and_self]) : GoC w0 Bs P (.loop c) n ds L H Q := .mk fun g w hw => by
  refine loop_F (fun k s w => ∃ x, k = μ x ∧ I x ∧ (∃ g, s = tab (V x ++ C) g) ∧ Mem w0 Bs (E x) w) (k0 := μ x0) ⟨x0, rfl, h0, ⟨tab L g, ?_⟩, hw.sub hE⟩ ?_
  · rw [tab_app, hA.tab, hV.tab]
  · rintro k s w ⟨x, rfl, hI, ⟨g, rfl⟩, hw⟩
    exact (round x hI).go g w hw
theorem go_again {X : Type} {I : X → Prop} {μ : X → Nat} {V : X → List (Nat × Value)} {E : X → List En} {x : X} (x' : X) (hI : I x') (hμ : μ x' < μ x) (hA : AgreeL L2 (V x' ++ C)) (hE : Sub (E x') H2) : GoX w0 Bs .normal n ds L2 H2 (Exit.then (Again w0 Bs n ds I μ V E C x) Q) := .mk fun g w hw =>
  ⟨μ x', _, rfl, hμ, x', rfl, hI, ⟨tab L2 g, hA.tab.symm⟩, hw.sub hE⟩
theorem go_nrm {A : List (Nat × Value)} (k : ∃ L', A ++ C = L' ∧ GoC w0 Bs P c n ds L' H Q) : GoC w0 Bs P c n ds (A ++ C) H Q := by obtain ⟨_, rfl, h⟩ := k; exact h
/-- both ways of a test lead to one state -/
theorem go_join {y : Code} (L' : List (Nat × Value)) (H' : List En) (h1 : GoC w0 Bs P c n ds L H (Exit.then (fun a w => ∃ g, a = mkA n (tab L' g) ds ∧ Mem w0 Bs H' w) Q)) (h2 : GoC w0 Bs P y n ds L' H' Q) : GoC w0 Bs P c n ds L H (Exit.then (y.wp P Q) Q) := .mk fun g w hw =>
  wp_mono (h1.go g w hw) fun e a w' h => by
    cases e with
    | normal => obtain ⟨g', rfl, hm⟩ := h; exact h2.go g' w' hm
    | _ => exact h
theorem xj_n {L' : List (Nat × Value)} {H' : List En} (hA : AgreeL L L') (hE : Sub H' H) : GoX w0 Bs .normal n ds L H (Exit.then (fun a w => ∃ g, a = mkA n (tab L' g) ds ∧ Mem w0 Bs H' w) Q) := .mk fun g w hw => ⟨tab L g, by rw [hA.tab], hw.sub hE⟩
end

section
structure Kp (p : Prop) : Prop where
  out : p
/-- as far as the steps go by themselves -/
theorem run {A B : Prop} (k : B) (e : Kp B → A := by
  intro h
  repeat (first
    | ((with_reducible refine go_nrm ?_); refine ⟨_, by simp only [List.cons_append, List.nil_append]; rfl, ?_⟩)
    | with_reducible refine go_seq ?_
    | with_reducible refine go_reg ?_
    | with_reducible refine go_nil ?_
    | with_reducible refine xt_n ?_
    | ((with_reducible refine GoL.q ?_); refine ⟨_, (by first | exact Ex.ld | exact Ex.rl | exact Ex.ix | exact Ex.sl | exact Ex.sh | exact Ex.fr0 | exact Ex.fr | exact Ex.q), ?_⟩)
    | ((with_reducible refine GoL.g ?_); refine ⟨_, _, rfl, by decide, by intro g; simp only [tab_cons, Nat.reduceEqDiff, ↓reduceIte]; rfl, ?_⟩; first | with_reducible refine Gd.yes ?_ | refine Gd.no ?_ rfl | with_reducible refine Gd.un ?_)
    | ((with_reducible refine GoL.st ?_)
       refine ⟨_, _, _, _, _, _, _, _, by intro g; simp only [evF_tmp, tab_cons, Nat.reduceLT, Nat.reduceEqDiff, ↓reduceIte]; rfl, by intro g; simp only [evF_tmp, evF_const, tab_cons, Nat.reduceLT, Nat.reduceEqDiff, ↓reduceIte]; rfl, by simp only [Value.cells]; rfl, by intro w R hR; go_simp; exact hR, by rfl,
         rp, by simp only [setLs, List.set_cons_zero, List.set_cons_succ, Nat.reduceAdd]; rfl, by simp [Value.oneCell'], by simp, ?_⟩)
    | with_reducible refine go_blk ?_
    | with_reducible refine go_skip ?_
    | with_reducible refine go_ret ?_
    | with_reducible refine go_exit ?_
    | with_reducible refine xt_e ?_
    | with_reducible refine xt_r ?_
    | with_reducible refine xb_n ?_
    | with_reducible refine xb_r ?_
    | with_reducible refine xb_e ?_
    | with_reducible refine xb_o ?_ (by decide)
    | ((with_reducible refine go_tf ?_); refine ⟨_, by intro g; simp only [tab_cons, Nat.reduceEqDiff, ↓reduceIte]; rfl, by decide, ?_⟩; first | refine Or.inl ⟨rfl, ?_⟩ | refine Or.inr ⟨rfl, ?_⟩))
  exact h.out) : A := e ⟨k⟩
end
end

section
set_option linter.all false
open Go.RowKit

section
variable {w : World} {H : List En} {U : Nat → Prop}
/-- the entries res r, for all r that live, apart -/
def En.fam (live : Nat → Prop) (res : Nat → En) : En where
  P S w := ∃ T : Nat → Nat → Prop, (∀ r, live r → ∀ b, T r b → S b) ∧ (∀ r r', live r → live r' → r ≠ r' → ∀ b, T r b → ¬ T r' b) ∧ ∀ r, live r → (res r).P (T r) w
  mono h hs := let ⟨T, h1, h2, h3⟩ := h; ⟨T, fun r hr b hb => hs b (h1 r hr b hb), h2, h3⟩
  loc h hs hz := let ⟨T, h1, h2, h3⟩ := h; ⟨T, h1, h2, fun r hr => (res r).loc (h3 r hr) (fun b hb => hs b (h1 r hr b hb)) hz⟩
theorem fam_out {live : Nat → Prop} {res : Nat → En} {r : Nat} (hr : live r) (h : Sep w (En.fam live res :: H) U) : Sep w (res r :: En.fam (fun k => live k ∧ k ≠ r) res :: H) U := by
  obtain ⟨S, hS, ⟨T, h1, h2, h3⟩, hrest⟩ := h
  exact ⟨T r, fun b hb => hS b (h1 r hr b hb), h3 r hr, fun b => S b ∧ ¬ T r b, fun b hb => ⟨hS b hb.1, hb.2⟩, ⟨T, fun k hk b hb => ⟨h1 k hk.1 b hb, fun h => h2 r k hr hk.1 (fun e => hk.2 e.symm) b h hb⟩, fun k k' hk hk' => h2 k k' hk.1 hk'.1, fun k hk => h3 k hk.1⟩,
    hrest.mono fun b hb => ⟨⟨hb.1, fun h => hb.2 (h1 r hr b h)⟩, fun h => hb.2 h.1⟩⟩
theorem fam_in {live : Nat → Prop} {res : Nat → En} {r : Nat} (hn : ¬ live r) (h : Sep w (res r :: En.fam live res :: H) U) : Sep w (En.fam (fun k => live k ∨ k = r) res :: H) U := by
  classical
  obtain ⟨S, hS, he, S', hS', ⟨T, h1, h2, h3⟩, hrest⟩ := h
  refine ⟨fun b => S b ∨ S' b, fun b hb => hb.elim (hS b) (fun h => (hS' b h).1), ⟨fun k => if k = r then S else T k, fun k hk b hb => ?_, fun k k' hk hk' hne b hb hb' => ?_, fun k hk => ?_⟩, hrest.mono fun b hb => ⟨hb.1.1, fun h => h.elim hb.1.2 hb.2⟩⟩
  · by_cases e : k = r
    · subst e; simp only [if_true] at hb; exact .inl hb
    · simp only [if_neg e] at hb; exact .inr (h1 k (hk.resolve_right e) b hb)
  · by_cases e : k = r
    · subst e
      simp only [if_true] at hb
      have e' : k' ≠ k := fun h => hne h.symm
      simp only [if_neg e'] at hb'
      exact (hS' b (h1 k' (hk'.resolve_right e') b hb')).2 hb
    · simp only [if_neg e] at hb
      by_cases e' : k' = r
      · subst e'; simp only [if_true] at hb'; exact (hS' b (h1 k (hk.resolve_right e) b hb)).2 hb'
      · simp only [if_neg e'] at hb'; exact h2 k k' (hk.resolve_right e) (hk'.resolve_right e') hne b hb hb'
  · by_cases e : k = r
    · subst e; simpa using he
    · simp only [if_neg e]; exact h3 k (hk.resolve_right e)
theorem fam_sub {live live' : Nat → Prop} {res res' : Nat → En} (hs : ∀ r, live' r → live r ∧ res' r = res r) (h : Sep w (En.fam live res :: H) U) : Sep w (En.fam live' res' :: H) U := by
  obtain ⟨S, hS, ⟨T, h1, h2, h3⟩, hr⟩ := h
  exact ⟨S, hS, ⟨T, fun r hr => h1 r (hs r hr).1, fun r r' hr hr' => h2 r r' (hs r hr).1 (hs r' hr').1, fun r hr => by rw [(hs r hr).2]; exact h3 r (hs r hr).1⟩, hr⟩
theorem Sep.cons_map {e : En} {H H' : List En} (hm : ∀ U, Sep w H U → Sep w H' U) (h : Sep w (e :: H) U) : Sep w (e :: H') U := by
  obtain ⟨S, h1, h2, h3⟩ := h; exact ⟨S, h1, h2, hm _ h3⟩
theorem fam_outs {res : Nat → En} : ∀ (rs : List Nat) (live : Nat → Prop) (U : Nat → Prop), rs.Nodup → (∀ r ∈ rs, live r) → Sep w (En.fam live res :: H) U → Sep w (rs.map res ++ (En.fam (fun k => live k ∧ k ∉ rs) res :: H)) U
  | [], live, U, _, _, h => fam_sub (fun r hr => ⟨hr.1, rfl⟩) h
  | r :: rs, live, U, hn, hl, h => by
    rw [List.nodup_cons] at hn
    refine Sep.cons_map (fun U h => ?_) (fam_out (hl r (by simp)) h)
    have := fam_outs rs _ U hn.2 (fun k hk => ⟨hl k (by simp [hk]), fun e => hn.1 (e ▸ hk)⟩) h
    refine Sep.perm (.append_left _ (.refl _)) ?_ |> fun h => h
    have hx : ∀ (A : List En) (U : Nat → Prop), Sep w (A ++ (En.fam (fun k => (live k ∧ k ≠ r) ∧ k ∉ rs) res :: H)) U → Sep w (A ++ (En.fam (fun k => live k ∧ k ∉ r :: rs) res :: H)) U := by
      intro A
      induction A with
      | nil => intro U h; exact fam_sub (fun k hk => ⟨⟨⟨hk.1, fun e => hk.2 (by simp [e])⟩, fun e => hk.2 (by simp [e])⟩, rfl⟩) h
      | cons a A ih => intro U h; exact Sep.cons_map ih h
    exact hx _ _ this
theorem fam_ins {res : Nat → En} : ∀ (rs : List Nat) (live : Nat → Prop) (U : Nat → Prop), rs.Nodup → (∀ r ∈ rs, ¬ live r) → Sep w (rs.map res ++ (En.fam live res :: H)) U → Sep w (En.fam (fun k => live k ∨ k ∈ rs) res :: H) U
  | [], live, U, _, _, h => fam_sub (fun r hr => ⟨hr.resolve_right (by simp), rfl⟩) h
  | r :: rs, live, U, hn, hl, h => by
    rw [List.nodup_cons] at hn
    have h1 : Sep w (res r :: (En.fam (fun k => live k ∨ k ∈ rs) res :: H)) U := Sep.cons_map (fun U h => fam_ins rs live U hn.2 (fun k hk => hl k (by simp [hk])) h) h
    refine fam_sub (fun k hk => ⟨?_, rfl⟩) (fam_in (fun hk => hk.elim (hl r (by simp)) hn.1) h1)
    rcases hk with h | h
    · exact .inl (.inl h)
    · rcases List.mem_cons.1 h with h | h
      · exact .inr h
      · exact .inl (.inr h)
end

/-- what an operation of such a region does: a value (it looks at the entries us); something new, or in the place of the entries tk; nothing -/
inductive DK
  | q (v : Value) (us : List Nat)
  | e (A : List Value → Value → En) (dp us tk : List Nat)
  | no
def DK.us : DK → List Nat
  | .q _ us => us
  | .e _ _ us _ => us
  | .no => []
def DK.tk : DK → List Nat
  | .e _ _ _ tk => tk
  | _ => []
def DK.dp : DK → List Nat
  | .e _ dp _ _ => dp
  | _ => []
def DK.isE : DK → Bool
  | .e .. => true
  | _ => false
def DK.val (k : DK) (X : Nat → Value) (i : Nat) : Value := match k with
  | .q v _ => v
  | .e .. => X i
  | .no => undef
def resX (ks : List DK) (I : List En) (len : Nat) (X : Nat → Value) (r : Nat) : En :=
  if len ≤ r then I.getD (r - len) (.pure True) else match ks[r]? with
  | some (.e A dp _ _) => A (dp.map X) (X r)
  | _ => .pure True
def isEat (ks : List DK) (i : Nat) : Bool := ((ks[i]?).map DK.isE).getD false
def tkAt (ks : List DK) (i : Nat) : List Nat := ((ks[i]?).map DK.tk).getD []

section
variable (P : Program) (w0 : World) (Bs : List Nat) (ops : Array Oper) (n : Nat) (H : List En)
def stepD (i : Nat) (o : Oper) (k : DK) (s : Nat → Value) (X : Nat → Value) (res : Nat → En) : Prop :=
  match k with
  | .no => Region.wanted o (yielded ops (tmA n s)) = false
  | .q v us => Region.wanted o (yielded ops (tmA n s)) = true ∧ ∀ F w, Mem w0 Bs (us.map res ++ (H ++ F)) w → quietB P w v ((execOp (evF n s) o).run P w)
  | .e A dp us tk => Region.wanted o (yielded ops (tmA n s)) = true ∧ ∀ F w, Mem w0 Bs (us.map res ++ (tk.map res ++ (H ++ F))) w → opF P o n s w (fun v w' => Mem w0 Bs (A (dp.map X) v :: (us.map res ++ (H ++ F))) w')
def walkD (K : (Nat → Value) → World → Prop) (fin : List Nat) (res : (Nat → Value) → Nat → En) : Nat → List Oper → List DK → ((Nat → Value) → Nat → Value) → Prop
  | i, o :: os, k :: ks, s => (∀ X, stepD P w0 Bs ops n H i o k (s X) X (res X)) ∧ walkD K fin res (i + 1) os ks (fun X => updS (s X) o.dst (k.val X i))
  | _, os, [], s => ∀ X w, Mem w0 Bs (fin.map (res X) ++ H) w → listF P ops n K os (s X) w
  | _, [], _ :: _, _ => False
end

def chkUD (l : List Oper) (M : Array Nat) (ks : List DK) (nb : Nat) : Bool := (List.range ks.length).all fun i => match ks[i]? with
  | none => false
  | some k => decide ((k.us ++ k.tk).Nodup) && (k.dp.all fun r => decide (r < ks.length) && aB M i r) && (k.us ++ k.tk).all fun r => (decide (l.length ≤ r) && decide (r < l.length + nb) || decide (r < ks.length) && isEat ks r && aB M i r) &&
      (List.range ks.length).all fun j => !(tkAt ks j).contains r || i == j || aB M j i
def chkFD (l : List Oper) (ks : List DK) (nb : Nat) (fin : List Nat) : Bool := decide fin.Nodup && fin.all fun r => (decide (l.length ≤ r) && decide (r < l.length + nb) || decide (r < ks.length) && isEat ks r) && (List.range ks.length).all fun j => !(tkAt ks j).contains r
def chkDD (l : List Oper) (ks : List DK) (nb : Nat) (fin : List Nat) : Bool :=
  let M := Region.before l.toArray
  Region.noSelect l.toArray && decide (ks.length ≤ l.length) && chkM l M && chkB l M && chkD l ks.length && chkO l M ks.length && chkUD l M ks nb && chkT l M ks.length && chkFD l ks nb fin
structure ChkD (l : List Oper) (M : Array Nat) (ks : List DK) (nb : Nat) (fin : List Nat) : Prop where
  sel : Region.noSelect l.toArray = true
  le : ks.length ≤ l.length
  anc : ∀ i j o, l[i]? = some o → aB M i j = true → ∃ e ∈ o.after.toList, Region.binds .any e = true ∧ (e.on = j ∨ aB M e.on j = true)
  lt : ∀ i j, i < l.length → aB M i j = true → j < i
  dst : ∀ i j d, i < ks.length → j < ks.length → dstAt l i = some d → dstAt l j = some d → i = j
  looks : ∀ i o, i < ks.length → l[i]? = some o → ∀ t ∈ o.looksAt l.toArray, ∀ j, j < ks.length → dstAt l j = some t → j < i ∧ aB M i j = true
  nod : ∀ (i : Nat) (k : DK), ks[i]? = some k → (k.us ++ k.tk).Nodup
  deps : ∀ (i : Nat) (k : DK), ks[i]? = some k → ∀ r ∈ k.dp, r < ks.length ∧ aB M i r = true
  uses : ∀ (i : Nat) (k : DK), ks[i]? = some k → ∀ r ∈ k.us ++ k.tk, ((l.length ≤ r ∧ r < l.length + nb) ∨ (r < ks.length ∧ isEat ks r = true ∧ aB M i r = true)) ∧ ∀ j, r ∈ tkAt ks j → i = j ∨ aB M j i = true
  tail : ∀ t j, t < l.length → ks.length ≤ t → j < t → aB M t j = true
  fnod : fin.Nodup
  fok : ∀ r ∈ fin, ((l.length ≤ r ∧ r < l.length + nb) ∨ (r < ks.length ∧ isEat ks r = true)) ∧ ∀ j, r ∉ tkAt ks j
theorem tk_lt {ks : List DK} {j r : Nat} (h : r ∈ tkAt ks j) : j < ks.length := by
  unfold tkAt at h
  cases hk : ks[j]? with
  | none => rw [hk] at h; simp at h
  | some k => exact (List.getElem?_eq_some_iff.1 hk).1
theorem chkD_of {l : List Oper} {ks : List DK} {nb : Nat} {fin : List Nat} (h : chkDD l ks nb fin = true) : ChkD l (Region.before l.toArray) ks nb fin := by
  unfold chkDD at h
  simp only [Bool.and_eq_true] at h
  obtain ⟨⟨⟨⟨⟨⟨⟨⟨h1, h2⟩, h3⟩, h3b⟩, h4⟩, h5⟩, h6⟩, h7⟩, h8⟩ := h
  have hm : ks.length = (ks.map fun _ => OK.no).length := by simp
  have hc := chk_of (l := l) (ks := ks.map fun _ => OK.no) (nb := 0) (by
    unfold chkR
    simp only [Bool.and_eq_true, List.length_map]
    refine ⟨⟨⟨⟨⟨⟨⟨h1, h2⟩, h3⟩, h3b⟩, h4⟩, h5⟩, ?_⟩, h7⟩
    unfold chkU
    rw [List.all_eq_true]
    intro i hi
    have hi' : i < ks.length := by simpa using hi
    simp [List.getElem?_map, hi', OK.uses])
  refine ⟨hc.sel, by simpa using hc.le, hc.anc, hc.lt, by simpa using hc.dst, by simpa using hc.looks, ?_, ?_, ?_, by simpa using hc.tail, ?_, ?_⟩
  · intro i k hk
    have hi : i < ks.length := (List.getElem?_eq_some_iff.1 hk).1
    unfold chkUD at h6
    rw [List.all_eq_true] at h6
    have := h6 i (by simpa using hi)
    rw [hk] at this
    simp only [Bool.and_eq_true, decide_eq_true_eq] at this
    exact this.1.1
  · intro i k hk r hr
    have hi : i < ks.length := (List.getElem?_eq_some_iff.1 hk).1
    unfold chkUD at h6
    rw [List.all_eq_true] at h6
    have := h6 i (by simpa using hi)
    rw [hk] at this
    simp only [Bool.and_eq_true, decide_eq_true_eq] at this
    have := List.all_eq_true.1 this.1.2 r hr
    simpa using this
  · intro i k hk r hr
    have hi : i < ks.length := (List.getElem?_eq_some_iff.1 hk).1
    unfold chkUD at h6
    rw [List.all_eq_true] at h6
    have := h6 i (by simpa using hi)
    rw [hk] at this
    simp only [Bool.and_eq_true, decide_eq_true_eq] at this
    have := List.all_eq_true.1 this.2 r hr
    simp only [Bool.and_eq_true, Bool.or_eq_true, decide_eq_true_eq] at this
    obtain ⟨ha, hb⟩ := this
    refine ⟨ha.elim .inl (fun h => .inr ⟨h.1.1, h.1.2, h.2⟩), fun j hj => ?_⟩
    have := List.all_eq_true.1 hb j (by simpa using tk_lt hj)
    simp only [Bool.or_eq_true, Bool.not_eq_true', beq_iff_eq] at this
    rcases this with (h | h) | h
    · rw [List.contains_iff_mem.2 hj] at h; cases h
    · exact .inl h
    · exact .inr h
  · unfold chkFD at h8
    simp only [Bool.and_eq_true, decide_eq_true_eq] at h8
    exact h8.1
  · intro r hr
    unfold chkFD at h8
    simp only [Bool.and_eq_true, decide_eq_true_eq] at h8
    have := List.all_eq_true.1 h8.2 r hr
    simp only [Bool.and_eq_true, Bool.or_eq_true, decide_eq_true_eq] at this
    refine ⟨this.1, fun j hj => ?_⟩
    have := List.all_eq_true.1 this.2 j (by simpa using tk_lt hj)
    rw [List.contains_iff_mem.2 hj] at this; cases this

section
variable {ds : List Deferred} {P : Program} {l : List Oper} {n : Nat} {w0 : World} {Bs : List Nat} {H I : List En} {fin : List Nat} {K : (Nat → Value) → World → Prop} {ks : List DK} {s0 : Nat → Value} {X : Nat → Value} {L : Nat → Bool} {s : Nat → Value} {w w' : World} {i : Nat} {o : Oper} {k : DK}
def vD (ks : List DK) (X : Nat → Value) (i : Nat) : Value := ((ks[i]?).map fun k => k.val X i).getD undef
def frD (l : List Oper) (ks : List DK) (s0 : Nat → Value) (X : Nat → Value) : Nat → Nat → Value
  | 0 => s0
  | i + 1 => updS (frD l ks s0 X i) (dstAt l i) (vD ks X i)
theorem frD_un {t : Nat} : ∀ i, (∀ j, j < i → dstAt l j ≠ some t) → frD l ks s0 X i t = s0 t
  | 0, _ => rfl
  | i + 1, h => by
    have h1 := h i (by omega)
    simp only [frD]
    cases hd : dstAt l i with
    | none => exact frD_un i fun j hj => h j (by omega)
    | some d =>
      simp only [updS_some]
      rw [if_neg (fun e => h1 (by rw [hd, e]))]
      exact frD_un i fun j hj => h j (by omega)
theorem frD_at {t j : Nat} (hj : dstAt l j = some t) : ∀ i, j < i → (∀ j', j' < i → j' ≠ j → dstAt l j' ≠ some t) → frD l ks s0 X i t = vD ks X j
  | 0, h, _ => by omega
  | i + 1, h, hu => by
    simp only [frD]
    by_cases hij : i = j
    · subst hij; rw [hj]; simp
    · have h1 := hu i (by omega) hij
      cases hd : dstAt l i with
      | none => exact frD_at hj i (by omega) fun j' hj' => hu j' (by omega)
      | some d =>
        simp only [updS_some]
        rw [if_neg (fun e => h1 (by rw [hd, e]))]
        exact frD_at hj i (by omega) fun j' hj' => hu j' (by omega)
theorem walkD_get {res : (Nat → Value) → Nat → En} : ∀ (t i : Nat), i + t = ks.length → walkD P w0 Bs l.toArray n H K fin res i (l.drop i) (ks.drop i) (fun X => frD l ks s0 X i) →
    (∀ i', i ≤ i' → i' < ks.length → ∃ o k, l[i']? = some o ∧ ks[i']? = some k ∧ ∀ X, stepD P w0 Bs l.toArray n H i' o k (frD l ks s0 X i') X (res X)) ∧
    (∀ X w, Mem w0 Bs (fin.map (res X) ++ H) w → listF P l.toArray n K (l.drop ks.length) (frD l ks s0 X ks.length) w)
  | 0, i, hi, h => by
    obtain rfl : i = ks.length := by omega
    rw [List.drop_length] at h
    refine ⟨fun i' h1 h2 => by omega, ?_⟩
    cases ho : l.drop ks.length with
    | nil => rw [ho] at h; simpa only [walkD] using h
    | cons o os => rw [ho] at h; simpa only [walkD] using h
  | t + 1, i, hi, h => by
    have hk : i < ks.length := by omega
    have hkd := List.drop_eq_getElem_cons hk
    rw [hkd] at h
    cases ho : l.drop i with
    | nil => rw [ho] at h; simp [walkD] at h
    | cons o os =>
      rw [ho] at h
      obtain ⟨h1, h2⟩ := h
      obtain ⟨ho1, rfl⟩ := drop_cons ho
      have ed : dstAt l i = o.dst := by simp [dstAt, ho1]
      have es : (fun X => updS (frD l ks s0 X i) o.dst (ks[i].val X i)) = fun X => frD l ks s0 X (i + 1) := by
        funext X; show _ = updS _ (dstAt l i) (vD ks X i); rw [ed]; simp [vD, hk]
      rw [es] at h2
      obtain ⟨g1, g2⟩ := walkD_get t (i + 1) (by omega) h2
      refine ⟨fun i' h3 h4 => ?_, g2⟩
      rcases Nat.eq_or_lt_of_le h3 with e | e
      · subst e; exact ⟨o, ks[i], ho1, by simp [hk], h1⟩
      · exact g1 i' e h4

def liveD (ks : List DK) (len nb : Nat) (L : Nat → Bool) (r : Nat) : Prop := ((r < ks.length ∧ L r = true ∧ isEat ks r = true) ∨ (len ≤ r ∧ r < len + nb)) ∧ ∀ j, L j = true → r ∉ tkAt ks j
structure JD (l : List Oper) (n : Nat) (w0 : World) (Bs : List Nat) (H I : List En) (ks : List DK) (s0 : Nat → Value) (X : Nat → Value) (L : Nat → Bool) (s : Nat → Value) (w : World) : Prop where
  mem : Mem w0 Bs (En.fam (liveD ks l.length I.length L) (resX ks I l.length X) :: H) w
  cl : ∀ i j, L i = true → aB (Region.before l.toArray) i j = true → L j = true
  lo : ∀ i, L i = true → i < ks.length
  sl : ∀ i d, L i = true → dstAt l i = some d → s d = vD ks X i
  un : ∀ d, d < n → (∀ i, L i = true → dstAt l i ≠ some d) → s d = s0 d
theorem JD.looks (hc : ChkD l (Region.before l.toArray) ks I.length fin) (h : JD l n w0 Bs H I ks s0 X L s w) (hi : i < ks.length) (ho : l[i]? = some o) (hA : ∀ j, aB (Region.before l.toArray) i j = true → L j = true) :
    ∀ t, t ∈ o.looksAt l.toArray → t < n → s t = frD l ks s0 X i t := by
  intro t ht hn
  by_cases hw : ∃ j, j < ks.length ∧ dstAt l j = some t
  · obtain ⟨j, hj, hd⟩ := hw
    obtain ⟨hlt, ha⟩ := hc.looks i o hi ho t ht j hj hd
    rw [h.sl j t (hA j ha) hd]
    refine (frD_at hd i hlt fun j' hj' hne hd' => hne ?_).symm
    exact hc.dst j' j t (by omega) hj hd' hd
  · have hw' : ∀ j, j < ks.length → dstAt l j ≠ some t := fun j hj hd => hw ⟨j, hj, hd⟩
    rw [frD_un i fun j hj => hw' j (by omega)]
    exact h.un t hn fun j hj => hw' j (h.lo j hj)
theorem isE_lt (h : isEat ks i = true) : i < ks.length := by
  unfold isEat at h
  cases hk : ks[i]? with
  | none => rw [hk] at h; simp at h
  | some k => exact (List.getElem?_eq_some_iff.1 hk).1
/-- one operation more -/
theorem JD.step {X' : Nat → Value} (hc : ChkD l (Region.before l.toArray) ks I.length fin) (h : JD l n w0 Bs H I ks s0 X L s w) (hi : i < ks.length) (hL : L i = false) (hA : ∀ j, aB (Region.before l.toArray) i j = true → L j = true)
    (hX : ∀ j, j ≠ i → X' j = X j) (hm : Mem w0 Bs (En.fam (liveD ks l.length I.length (upd L i)) (resX ks I l.length X') :: H) w') : JD l n w0 Bs H I ks s0 X' (upd L i) (updS s (dstAt l i) (vD ks X' i)) w' := by
  have hv : ∀ j, j ≠ i → vD ks X' j = vD ks X j := by
    intro j hj
    unfold vD
    cases ks[j]? with
    | none => rfl
    | some k => cases k <;> simp [DK.val, hX j hj]
  refine ⟨hm, ?_, ?_, ?_, ?_⟩
  · intro j j' hj ha
    rcases upd_true j hj with rfl | hj
    · exact upd_old _ (hA j' ha)
    · exact upd_old _ (h.cl j j' hj ha)
  · intro j hj
    rcases upd_true j hj with rfl | hj
    · exact hi
    · exact h.lo j hj
  · intro j d hj hd
    rcases upd_true j hj with rfl | hj'
    · rw [hd]; simp
    · have hne : j ≠ i := fun e => by subst e; rw [hL] at hj'; cases hj'
      rw [hv j hne]
      cases hdi : dstAt l i with
      | none => exact h.sl j d hj' hd
      | some d' =>
        simp only [updS_some]
        rw [if_neg (fun e => hne (hc.dst j i d (h.lo j hj') hi hd (by rw [hdi, e])))]
        exact h.sl j d hj' hd
  · intro d hd hno
    have h1 := hno i upd_self
    cases hdi : dstAt l i with
    | none => exact h.un d hd fun j hj => hno j (upd_old j hj)
    | some d' =>
      simp only [updS_some]
      rw [if_neg (fun e => h1 (by rw [hdi, e]))]
      exact h.un d hd fun j hj => hno j (upd_old j hj)
/-- the entries that operation i looks at live -/
theorem JD.lives (hc : ChkD l (Region.before l.toArray) ks I.length fin) (h : JD l n w0 Bs H I ks s0 X L s w) (hk : ks[i]? = some k) (hL : L i = false) (hA : ∀ j, aB (Region.before l.toArray) i j = true → L j = true) : ∀ r ∈ k.us ++ k.tk, liveD ks l.length I.length L r := by
  intro r hr
  obtain ⟨h1, h2⟩ := hc.uses i k hk r hr
  refine ⟨h1.elim .inr (fun h => .inl ⟨h.1, hA r h.2.2, h.2.1⟩), fun j hj hm => ?_⟩
  rcases h2 j hm with e | e
  · subst e; rw [hL] at hj; cases hj
  · have := h.cl j i hj e; rw [hL] at this; cases this
theorem Mem.famOut {live : Nat → Prop} {res : Nat → En} (h : Mem w0 Bs (En.fam live res :: H) w) (rs : List Nat) (hn : rs.Nodup) (hl : ∀ r ∈ rs, live r) : Mem w0 Bs (rs.map res ++ (H ++ [En.fam (fun k => live k ∧ k ∉ rs) res])) w := by
  refine Mem.perm ⟨h.1, fam_outs rs live _ hn hl h.2⟩ (.append_left _ ?_)
  exact List.perm_append_comm (l₁ := [_]) (l₂ := H)
theorem Mem.famIn {live : Nat → Prop} {res : Nat → En} (rs : List Nat) (h : Mem w0 Bs (rs.map res ++ (H ++ [En.fam live res])) w) (hn : rs.Nodup) (hl : ∀ r ∈ rs, ¬ live r) : Mem w0 Bs (En.fam (fun k => live k ∨ k ∈ rs) res :: H) w := by
  have h' : Mem w0 Bs (rs.map res ++ (En.fam live res :: H)) w := h.perm (.append_left _ (List.perm_append_comm (l₁ := H) (l₂ := [_])))
  exact ⟨h'.1, fam_ins rs live _ hn hl h'.2⟩
theorem Mem.famSub {live live' : Nat → Prop} {res res' : Nat → En} (h : Mem w0 Bs (En.fam live res :: H) w) (hs : ∀ r, live' r → live r ∧ res' r = res r) : Mem w0 Bs (En.fam live' res' :: H) w := ⟨h.1, fam_sub hs h.2⟩
theorem res_q (hk : ks[i]? = some k) (hE : k.isE = false) : isEat ks i = false := by simp [isEat, hk, hE]
theorem stepJD (hc : ChkD l (Region.before l.toArray) ks I.length fin)
    (hf : ∃ o k, l[i]? = some o ∧ ks[i]? = some k ∧ ∀ X, stepD P w0 Bs l.toArray n H i o k (frD l ks s0 X i) X (resX ks I l.length X))
    (h : JD l n w0 Bs H I ks s0 X L s w) (ho : l[i]? = some o) (hL : L i = false) (hd : ∀ e ∈ o.after.toList, Region.binds .any e = true → L e.on = true)
    (Kv : Value → World → Prop) (hK : ∀ X v w', JD l n w0 Bs H I ks s0 X (upd L i) (updS s o.dst v) w' → Kv v w') :
    if Region.wanted o (yielded l.toArray (tmA n s)) then opF P o n s w Kv else Kv undef w := by
  obtain ⟨o', k, ho', hk, hst⟩ := hf
  obtain rfl : o' = o := Option.some.inj (ho'.symm.trans ho)
  have hi : i < ks.length := (List.getElem?_eq_some_iff.1 hk).1
  have hA : ∀ j, aB (Region.before l.toArray) i j = true → L j = true := by
    intro j hj
    obtain ⟨e, he, hb, hor⟩ := hc.anc i j o' ho hj
    have h1 := hd e he hb
    rcases hor with rfl | hor
    · exact h1
    · exact h.cl e.on j h1 hor
  have hds : dstAt l i = o'.dst := by simp [dstAt, ho]
  have htk : tkAt ks i = k.tk := by simp [tkAt, hk]
  have hsel : ∀ c b, o'.op ≠ .select c b := fun c b => Region.noSelect_spec hc.sel i o' c b (by simpa using ho)
  have hlv := h.lives hc hk hL hA
  have hnod := hc.nod i k hk
  have hlook := h.looks hc hi ho hA
  have hvi : ∀ X, vD ks X i = k.val X i := fun X => by simp [vD, hk]
  have hfin : ∀ (X' : Nat → Value) (w' : World), JD l n w0 Bs H I ks s0 X' (upd L i) (updS s (dstAt l i) (vD ks X' i)) w' → Kv (k.val X' i) w' := by
    intro X' w' hj; rw [hds, hvi] at hj; exact hK X' _ _ hj
  -- nothing new
  have keep : ∀ {w' : World}, k.isE = false → Below w.heap.size w w' → JD l n w0 Bs H I ks s0 X (upd L i) (updS s (dstAt l i) (vD ks X i)) w' := by
    intro w' hE hb
    refine h.step hc hi hL hA (fun _ _ => rfl) ((h.mem.call hb).famSub fun r hr => ⟨⟨?_, fun j hj => hr.2 j (upd_old j hj)⟩, rfl⟩)
    rcases hr.1 with ⟨h1, h2, h3⟩ | h1
    · rcases upd_true r h2 with rfl | h2
      · rw [res_q hk hE] at h3; cases h3
      · exact .inl ⟨h1, h2, h3⟩
    · exact .inr h1
  have hst0 := hst X
  have hmem := h.mem.famOut (k.us ++ k.tk) hnod hlv
  rw [List.map_append, List.append_assoc] at hmem
  cases k with
  | no =>
    rw [if_neg (by rw [wanted_looks hlook, show Region.wanted o' _ = false from hst0]; simp)]
    exact hfin X w (keep rfl (Below.refl _ _))
  | q v us =>
    obtain ⟨h1, h2⟩ := hst0
    rw [if_pos (by rw [wanted_looks hlook, h1])]
    have h3 := h2 _ w hmem
    rw [← exec_looks hsel hlook] at h3
    unfold opF
    generalize (execOp (evF n s) o').run P w = res at h3 ⊢
    cases res with
    | ok nx w1 =>
      cases nx with
      | value u =>
        simp only [quietB] at h3
        obtain ⟨rfl, rfl⟩ := h3
        exact hfin X _ (keep rfl (Below.refl _ _))
      | skip =>
        simp only [quietB] at h3
        obtain ⟨rfl, h4⟩ := h3
        have := hfin X _ (keep rfl (Below.refl _ _))
        simp only [DK.val] at this
        rw [h4] at this
        exact this
      | enter f args =>
        simp only [quietB] at h3
        obtain ⟨rfl, h4⟩ := h3
        exact h4.mono fun e w2 ⟨he, hb⟩ => ⟨_, he, hfin X _ (keep rfl hb)⟩
      | _ => exact h3.elim
    | halt x w1 => exact h3.elim
  | e A dp us tk =>
    obtain ⟨h1, h2⟩ := hst0
    rw [if_pos (by rw [wanted_looks hlook, h1])]
    have h3 := h2 _ w hmem
    unfold opF at h3 ⊢
    rw [← exec_looks hsel hlook] at h3
    refine uponF.mono (fun v w1 hm => ?_) h3
    have hnd := List.nodup_append.1 hnod
    -- the oracle with this value
    let X' : Nat → Value := fun j => if j = i then v else X j
    have hX : ∀ j, j ≠ i → X' j = X j := fun j hj => by show (if j = i then v else X j) = X j; rw [if_neg hj]
    have hXi : X' i = v := by show (if i = i then v else X i) = v; rw [if_pos rfl]
    have hil : ¬ l.length ≤ i := by have := hc.le; omega
    have hres : ∀ r, r ≠ i → (l.length ≤ r ∨ L r = true) → resX ks I l.length X' r = resX ks I l.length X r := by
      intro r hr hlr
      unfold resX
      by_cases hle : l.length ≤ r
      · rw [if_pos hle, if_pos hle]
      · rw [if_neg hle, if_neg hle]
        cases hkr : ks[r]? with
        | none => rfl
        | some k =>
          cases k with
          | e A' dp' us' tk' =>
            have : dp'.map X' = dp'.map X := List.map_congr_left fun j hj => hX j fun e => by
              have h5 := (hc.deps r _ hkr j hj).2
              have h6 := h.cl r j (hlr.resolve_left hle) h5
              rw [e, hL] at h6; cases h6
            show A' (dp'.map X') (X' r) = A' (dp'.map X) (X r)
            rw [this, hX r hr]
          | _ => rfl
    have hdpi : dp.map X' = dp.map X := List.map_congr_left fun j hj => hX j fun e => by
      have h5 := (hc.deps i _ hk j hj).2
      have := hc.lt i j (by have := hc.le; omega) h5
      omega
    have hresi : resX ks I l.length X' i = A (dp.map X) v := by
      unfold resX; rw [if_neg hil, hk]; show A (dp.map X') (X' i) = _; rw [hXi, hdpi]
    have hliv : ∀ r, liveD ks l.length I.length L r → l.length ≤ r ∨ L r = true := fun r hr => hr.1.elim (fun h => .inr h.2.1) (fun h => .inl h.1)
    have hine : ∀ r ∈ us ++ tk, r ≠ i := by
      intro r hr e
      subst e
      obtain ⟨h4, _⟩ := hc.uses r _ hk r hr
      rcases h4 with h4 | h4
      · omega
      · have := hc.lt r r (by have := hc.le; omega) h4.2.2; omega
    have hus : us.map (resX ks I l.length X) = us.map (resX ks I l.length X') := by
      apply List.map_congr_left; intro r hr; exact (hres r (hine r (by simp [hr])) (hliv r (hlv r (by simp [DK.us, DK.tk, hr])))).symm
    have hne : ¬ liveD ks l.length I.length L i := by
      intro hl
      rcases hl.1 with ⟨_, h4, _⟩ | h4
      · rw [hL] at h4; cases h4
      · omega
    have hm2 : Mem w0 Bs ((i :: us).map (resX ks I l.length X') ++ (H ++ [En.fam (fun k => liveD ks l.length I.length L k ∧ k ∉ us ++ tk) (resX ks I l.length X)])) w1 := by
      rw [List.map_cons, hresi, ← hus]; exact hm
    have hm3 : Mem w0 Bs ((i :: us).map (resX ks I l.length X') ++ (H ++ [En.fam (fun k => liveD ks l.length I.length L k ∧ k ∉ us ++ tk) (resX ks I l.length X')])) w1 := by
      refine ⟨hm2.1, ?_⟩
      have hx : ∀ (B : List En) (U : Nat → Prop), Sep w1 (B ++ [En.fam (fun k => liveD ks l.length I.length L k ∧ k ∉ us ++ tk) (resX ks I l.length X)]) U → Sep w1 (B ++ [En.fam (fun k => liveD ks l.length I.length L k ∧ k ∉ us ++ tk) (resX ks I l.length X')]) U := by
        intro B
        induction B with
        | nil => intro U h; exact fam_sub (fun r hr => ⟨hr, hres r (fun e => hne (e ▸ hr.1)) (hliv r hr.1)⟩) h
        | cons a B ih => intro U h; exact Sep.cons_map ih h
      have := hm2.2
      rw [← List.append_assoc] at this ⊢
      exact hx _ _ this
    have hinu : (i :: us).Nodup := List.nodup_cons.2 ⟨fun h => hine i (by simp [h]) rfl, hnd.1⟩
    have hm4 := Mem.famIn (i :: us) hm3 hinu (by
      intro r hr hl
      rcases List.mem_cons.1 hr with rfl | hr
      · exact hne hl.1
      · exact hl.2 (by simp [hr]))
    have hj := h.step hc hi hL hA hX (hm4.famSub fun r hr => ⟨?_, rfl⟩)
    · have := hfin X' w1 hj
      simp only [DK.val, hXi] at this
      exact this
    · by_cases hri : r = i
      · exact .inr (by simp [hri])
      · by_cases hru : r ∈ us
        · exact .inr (by simp [hru])
        · refine .inl ⟨⟨?_, fun j hj => hr.2 j (upd_old j hj)⟩, fun hm => ?_⟩
          · rcases hr.1 with ⟨h1, h2, h3⟩ | h1
            · rcases upd_true r h2 with e | h2
              · exact absurd e hri
              · exact .inl ⟨h1, h2, h3⟩
            · exact .inr h1
          · rcases List.mem_append.1 hm with h | h
            · exact hru h
            · exact hr.2 i upd_self (by rw [htk]; exact h)
theorem JD.ends (hc : ChkD l (Region.before l.toArray) ks I.length fin) (hf : ∀ X w, Mem w0 Bs (fin.map (resX ks I l.length X) ++ H) w → listF P l.toArray n K (l.drop ks.length) (frD l ks s0 X ks.length) w)
    (h : JD l n w0 Bs H I ks s0 X L s w) (hL : ∀ j, j < ks.length → L j = true) : J2 P l n ks.length K L s w := by
  refine ⟨ks.length, Nat.le_refl _, hc.le, fun j => ?_, frD l ks s0 X ks.length, fun t ht => ?_, hf X w ?_⟩
  · by_cases hj : j < ks.length
    · rw [hL j hj]; simp [hj]
    · cases hl : L j with
      | false => simp [hj]
      | true => exact absurd (h.lo j hl) hj
  · by_cases hw : ∃ j, j < ks.length ∧ dstAt l j = some t
    · obtain ⟨j, hj, hd⟩ := hw
      rw [h.sl j t (hL j hj) hd]
      exact (frD_at hd ks.length hj fun j' hj' hne hd' => hne (hc.dst j' j t hj' hj hd' hd)).symm
    · have hw' : ∀ j, j < ks.length → dstAt l j ≠ some t := fun j hj hd => hw ⟨j, hj, hd⟩
      rw [frD_un ks.length hw']
      exact h.un t ht fun j hj => hw' j (h.lo j hj)
  · have := h.mem.famOut fin hc.fnod (fun r hr => by
      obtain ⟨h1, h2⟩ := hc.fok r hr
      exact ⟨h1.elim .inr (fun h => .inl ⟨h.1, hL r h.1, h.2⟩), fun j _ => h2 j⟩)
    rw [← List.append_assoc] at this
    exact ⟨this.1, (this.2.perm (List.perm_append_comm (l₂ := [_]))).drop⟩
theorem regionD {id : Nat} {Q : Exit → Act → World → Prop} (fin : List Nat) (ks : List DK) (I H : List En) (hm : P.follows .mixedOrders = true) (hb : backB l.toArray = true) (hdn : dstB l.toArray (List.range n) = true) (hchk : chkDD l ks I.length fin = true)
    (hM : Mem w0 Bs (I ++ H) w) (hw : walkD P w0 Bs l.toArray n H (fun s w => Q .normal (mkA n s ds) w) fin (resX ks I l.length) 0 l ks (fun _ => s)) : (Code.region id l.toArray true).wp P Q (mkA n s ds) w := by
  have hc := chkD_of hchk
  obtain ⟨g1, g2⟩ := walkD_get (l := l) (ks := ks) (s0 := s) ks.length 0 (by omega) hw
  let J : (Nat → Bool) → (Nat → Value) → World → Prop := fun L s' w' => (∃ X, JD l n w0 Bs H I ks s X L s' w') ∨ J2 P l n ks.length (fun s w => Q .normal (mkA n s ds) w) L s' w'
  have hstep2 : ∀ (i : Nat) (o : Oper) (L : Nat → Bool) (s' : Nat → Value) (w' : World), l[i]? = some o → L i = false → (∀ j, j < i → L j = true) → J2 P l n ks.length (fun s w => Q .normal (mkA n s ds) w) L s' w' → ∀ Kv : Value → World → Prop, (∀ v w1, J (upd L i) (updS s' o.dst v) w1 → Kv v w1) → if Region.wanted o (yielded l.toArray (tmA n s')) then opF P o n s' w' Kv else Kv undef w' := by
    intro i o L s' w' ho hL hlow ⟨k, hk1, hk2, hk3, s2, hs2, hl2⟩ Kv hK
    have hik : i = k := by
      have h1 := hk3 i
      rw [hL] at h1
      have : ¬ i < k := by simpa using h1.symm
      rcases Nat.lt_or_ge k i with h2 | h2
      · have := hlow k h2
        rw [hk3 k] at this; simp at this
      · omega
    subst hik
    have hil : i < l.length := (List.getElem?_eq_some_iff.1 ho).1
    rw [List.drop_eq_getElem_cons hil] at hl2
    have e : l[i] = o := by rw [List.getElem?_eq_getElem hil] at ho; exact Option.some.inj ho
    rw [e] at hl2
    refine listF_congr hs2 Kv (fun v w1 h => hK v w1 (.inr ⟨i + 1, by omega, by omega, fun j => ?_, updS s2 o.dst v, upd_agree hs2 _ _, h⟩)) hl2
    by_cases hj : j = i
    · subst hj; simp [upd]
    · rw [upd_ne hj, hk3 j]
      by_cases h : j < i
      · simp [h]; omega
      · simp [h]; omega
  refine regionI_F J hm hb hdn ?_ ?_ (invF_of l 0 ?_)
  · -- the start
    refine .inl ⟨fun _ => undef, ?_, fun _ _ h => (by cases h), fun _ h => (by cases h), fun _ _ h => (by cases h), fun d hd _ => if_pos hd⟩
    have h1 : Mem w0 Bs (I ++ (H ++ [En.fam (fun _ => False) (resX ks I l.length fun _ => undef)])) w.drew := by
      have h0 : Mem w0 Bs (En.fam (fun _ => False) (resX ks I l.length fun _ => undef) :: (I ++ H)) w.drew := ⟨hM.drew.1, fun _ => False, fun _ h => h.elim, ⟨fun _ _ => False, fun _ h => h.elim, fun _ _ h => h.elim, fun _ h => h.elim⟩, hM.drew.2.mono fun b hb => ⟨hb, fun h => h⟩⟩
      refine h0.perm ?_
      rw [← List.append_assoc]
      exact List.perm_append_comm (l₁ := [_]) (l₂ := I ++ H)
    have h2 : (List.range' l.length I.length).map (resX ks I l.length fun _ => undef) = I := by
      apply List.ext_getElem (by simp)
      intro j h1 h2
      simp only [List.getElem_map, List.getElem_range', Nat.one_mul, resX]
      rw [if_pos (by omega), show l.length + j - l.length = j by omega]
      simp [List.getD_eq_getElem?_getD, h2]
    have h3 := Mem.famIn (List.range' l.length I.length) (by rw [h2]; exact h1) List.nodup_range' (fun _ _ h => h)
    refine h3.famSub fun r hr => ⟨.inr ?_, rfl⟩
    rcases hr.1 with ⟨_, h, _⟩ | h
    · cases h
    · rw [List.mem_range']; exact ⟨r - l.length, by omega, by omega⟩
  · -- the end
    intro s' w' hJ
    have hend : J2 P l n ks.length (fun s w => Q .normal (mkA n s ds) w) (fun j => decide (j < l.length)) s' w' := by
      rcases hJ with ⟨X, hJ⟩ | hJ
      · exact hJ.ends hc g2 fun j hj => by have := hc.le; simp; omega
      · exact hJ
    obtain ⟨k, hk1, hk2, hk3, s2, hs2, hl2⟩ := hend
    have : k = l.length := by
      have h1 := hk3 k
      simp only [Nat.lt_irrefl, decide_false, decide_eq_false_iff_not] at h1
      omega
    subst this
    rw [List.drop_length] at hl2
    rw [mkA_congr hs2]; exact hl2
  · -- an operation
    intro i o ho L s' w' hL hd hJ Kv hK
    rw [Nat.zero_add] at hL
    simp only [Nat.zero_add] at hK
    by_cases him : i < ks.length
    · rcases hJ with ⟨X, hJ⟩ | hJ
      · exact stepJD hc (g1 i (Nat.zero_le _) him) hJ ho hL hd Kv fun X v w1 h => hK v w1 (.inl ⟨X, h⟩)
      · obtain ⟨k, hk1, _, hk3, _⟩ := hJ
        rw [hk3 i] at hL
        simp at hL; omega
    · have hil : i < l.length := (List.getElem?_eq_some_iff.1 ho).1
      rcases hJ with ⟨X, hJ⟩ | hJ
      · have hlow : ∀ j, j < i → L j = true := by
          intro j hj
          have ha := hc.tail i j hil (by omega) hj
          obtain ⟨e, he, hb', hor⟩ := hc.anc i j o ho ha
          rcases hor with rfl | hor
          · exact hd e he hb'
          · exact hJ.cl e.on j (hd e he hb') hor
        exact hstep2 i o L s' w' ho hL hlow (hJ.ends hc g2 fun j hj => hlow j (by omega)) Kv hK
      · have hJ' := hJ
        obtain ⟨k, hk1, hk2, hk3, _⟩ := hJ'
        have hlow : ∀ j, j < i → L j = true := by
          intro j hj
          have ha := hc.tail i j hil (by omega) hj
          obtain ⟨e, he, hb', hor⟩ := hc.anc i j o ho ha
          have hon := hd e he hb'
          rcases hor with rfl | hor
          · exact hon
          · rw [hk3] at hon ⊢
            simp only [decide_eq_true_eq] at hon ⊢
            by_cases hel : e.on < l.length
            · have := hc.lt e.on j hel hor; omega
            · omega
        exact hstep2 i o L s' w' ho hL hlow hJ Kv hK
end
end


end Go.Proofs.YtigehmghcafblaaGreat
