/- Steps of a printed walk, each a lemma whose side goals a tactic closes. -/
import Derived.Test.YtndcmmghgljinaaG4
set_option linter.all false
namespace Go.Proofs.Ytndcmmghgljinaa
open Go.RowKit

section
variable {P : Program} {ops : Array Oper} {n : Nat} {K : (Nat → Value) → World → Prop} {o : Oper} {os : List Oper} {s : Nat → Value} {w w' : World} {v : Value}
theorem pl (hr : listF P ops n K os (updS s o.dst v) w') (hg : o.guard = none := by rfl)
    (h : ∀ K' : Value → World → Prop, K' v w' → opF P o n s w K' := by intro K' hK; unfold opF; go_simp; exact hK) : listF P ops n K (o :: os) s w :=
  listF_step hg fun K' hK => h K' (hK _ _ hr)
theorem py {j d : Nat} {b : Bool} (hr : listF P ops n K os (updS s o.dst v) w') (hg : o.guard = some (j, b) := by rfl) (hd : (ops[j]?).bind (·.dst) = some d := by rfl) (hn : d < n := by decide) (hs : s d = .bool b := by go_simp; done)
    (h : ∀ K' : Value → World → Prop, K' v w' → opF P o n s w K' := by intro K' hK; unfold opF; go_simp; exact hK) : listF P ops n K (o :: os) s w :=
  listF_yes hg hd hn hs fun K' hK => h K' (hK _ _ hr)
theorem pn {j d : Nat} {b : Bool} (b' : Bool) (hr : listF P ops n K os (updS s o.dst undef) w) (hg : o.guard = some (j, b) := by rfl) (hd : (ops[j]?).bind (·.dst) = some d := by rfl) (hn : d < n := by decide) (hs : s d = .bool b' := by go_simp; done)
    (hb : (b' == b) = false := by rfl) : listF P ops n K (o :: os) s w :=
  listF_no hg hd hn hs hb hr
theorem pu {j d : Nat} {b : Bool} (hr : listF P ops n K os (updS s o.dst undef) w) (hg : o.guard = some (j, b) := by rfl) (hd : (ops[j]?).bind (·.dst) = some d := by rfl) (hn : d < n := by decide) (hs : s d = undef := by go_simp; done) : listF P ops n K (o :: os) s w :=
  listF_nu hg hd hn hs hr
theorem pa {l : List Value} {T : TypeId} (hr : ∀ w' B, B = w.heap.size → Cells w' B l → Below w.heap.size w w' → listF P ops n K os (updS s o.dst (.pointer (some ⟨B, 0, none⟩))) w') (hg : o.guard = none := by rfl)
    (h : ∀ K' : Value → World → Prop, K' (.pointer (some ⟨w.heap.size, 0, none⟩)) (w.alloc (.cells l.toArray T)) → opF P o n s w K' := by intro K' hK; unfold opF; go_simp; exact hK) : listF P ops n K (o :: os) s w :=
  listF_step hg fun K' hK => h K' (hK _ _ (hr _ _ rfl Cells.newL (below_alloc1 _ _)))
theorem pas {l : List Value} {T : TypeId} {k c : Nat} (hr : ∀ w' B, B = w.heap.size → Cells w' B l → Below w.heap.size w w' → listF P ops n K os (updS s o.dst (.slice (some ⟨B, 0, none⟩) k c)) w') (hg : o.guard = none := by rfl)
    (h : ∀ K' : Value → World → Prop, K' (.slice (some ⟨w.heap.size, 0, none⟩) k c) (w.alloc (.cells l.toArray T)) → opF P o n s w K' := by intro K' hK; unfold opF; go_simp; exact hK) : listF P ops n K (o :: os) s w :=
  listF_step hg fun K' hK => h K' (hK _ _ (hr _ _ rfl Cells.newL (below_alloc1 _ _)))
theorem pay {j d : Nat} {b : Bool} {l : List Value} {T : TypeId} (hr : ∀ w' B, B = w.heap.size → Cells w' B l → Below w.heap.size w w' → listF P ops n K os (updS s o.dst (.pointer (some ⟨B, 0, none⟩))) w') (hg : o.guard = some (j, b) := by rfl) (hd : (ops[j]?).bind (·.dst) = some d := by rfl) (hn : d < n := by decide) (hs : s d = .bool b := by go_simp; done)
    (h : ∀ K' : Value → World → Prop, K' (.pointer (some ⟨w.heap.size, 0, none⟩)) (w.alloc (.cells l.toArray T)) → opF P o n s w K' := by intro K' hK; unfold opF; go_simp; exact hK) : listF P ops n K (o :: os) s w :=
  listF_yes hg hd hn hs fun K' hK => h K' (hK _ _ (hr _ _ rfl Cells.newL (below_alloc1 _ _)))
theorem pasy {j d : Nat} {b : Bool} {l : List Value} {T : TypeId} {k c : Nat} (hr : ∀ w' B, B = w.heap.size → Cells w' B l → Below w.heap.size w w' → listF P ops n K os (updS s o.dst (.slice (some ⟨B, 0, none⟩) k c)) w') (hg : o.guard = some (j, b) := by rfl) (hd : (ops[j]?).bind (·.dst) = some d := by rfl) (hn : d < n := by decide) (hs : s d = .bool b := by go_simp; done)
    (h : ∀ K' : Value → World → Prop, K' (.slice (some ⟨w.heap.size, 0, none⟩) k c) (w.alloc (.cells l.toArray T)) → opF P o n s w K' := by intro K' hK; unfold opF; go_simp; exact hK) : listF P ops n K (o :: os) s w :=
  listF_yes hg hd hn hs fun K' hK => h K' (hK _ _ (hr _ _ rfl Cells.newL (below_alloc1 _ _)))
end
section
variable {P : Program} {ops : Array Oper} {n : Nat} {K : (Nat → Value) → Prop} {o : Oper} {os : List Oper} {s : Nat → Value} {W : World} {v : Value}
theorem lq (h2 : listQ P ops n (Below W.heap.size W) K os (updS s o.dst v)) (hg : o.guard = none := by rfl)
    (h1 : ∀ w, Below W.heap.size W w → Oper.quietUpon P (Below W.heap.size W) w v ((execOp (evF n s) o).run P w) := by intro wq hwq; obtain ⟨hcq, hfq⟩ := bcell hwq; go_simp; (first | rfl | exact ⟨rfl, rfl⟩ | (refine ⟨?_, ?_⟩ <;> rfl))) : listQ P ops n (Below W.heap.size W) K (o :: os) s :=
  listQ_step hg h1 h2
theorem lqy {j d : Nat} {b : Bool} (h2 : listQ P ops n (Below W.heap.size W) K os (updS s o.dst v)) (hg : o.guard = some (j, b) := by rfl) (hd : (ops[j]?).bind (·.dst) = some d := by rfl) (hn : d < n := by decide) (hs : s d = .bool b := by go_simp; done)
    (h1 : ∀ w, Below W.heap.size W w → Oper.quietUpon P (Below W.heap.size W) w v ((execOp (evF n s) o).run P w) := by intro wq hwq; obtain ⟨hcq, hfq⟩ := bcell hwq; go_simp; (first | rfl | exact ⟨rfl, rfl⟩ | (refine ⟨?_, ?_⟩ <;> rfl))) : listQ P ops n (Below W.heap.size W) K (o :: os) s :=
  listQ_yes hg hd hn hs h1 h2
theorem lqu {C : World → Prop} {j d : Nat} {b : Bool} (h : listQ P ops n C K os (updS s o.dst undef)) (hg : o.guard = some (j, b) := by rfl) (hd : (ops[j]?).bind (·.dst) = some d := by rfl) (hn : d < n := by decide) (hs : s d = undef := by go_simp; done) : listQ P ops n C K (o :: os) s :=
  listQ_nu hg hd hn hs h
theorem lqn {C : World → Prop} {j d : Nat} {b : Bool} (b' : Bool) (h : listQ P ops n C K os (updS s o.dst undef)) (hg : o.guard = some (j, b) := by rfl) (hd : (ops[j]?).bind (·.dst) = some d := by rfl) (hn : d < n := by decide) (hs : s d = .bool b' := by go_simp; done)
    (hb : (b' == b) = false := by rfl) : listQ P ops n C K (o :: os) s :=
  listQ_no hg hd hn hs hb h
end
section
variable {P : Program} {kk : List OK} {ops : Array Oper} {n : Nat} {w0 : World} {Bs rs : List Nat} {K : (Nat → Value) → World → Prop} {i : Nat} {o : Oper} {os : List Oper} {ks : List OK} {v : Ad → Value} {vs : List (Ad → Value)} {c : Ad → List Value} {cs : List (Ad → List Value)} {s : Ad → Nat → Value} {d : Ad → Nat → List Value}
theorem rq (h2 : walkR P kk ops n w0.drew Bs rs K (i + 1) os ks vs cs (fun X => updS (s X) o.dst (v X)) d) (hg : o.guard = none := by rfl)
    (h1 : ∀ X, Good kk ops.size w0.drew Bs X → ∀ w, OldB Bs w0.drew w → quietB P w (v X) ((execOp (evF n (s X)) o).run P w) := by intro X hX wq hwq; (first | obtain ⟨hcq, hfq⟩ := OldB.b0 hwq | obtain ⟨hcq, hfq⟩ := OldB.b1 hwq | obtain ⟨hcq, hfq⟩ := OldB.b2 hwq | obtain ⟨hcq, hfq⟩ := OldB.b3 hwq); go_simp; (first | rfl | exact ⟨rfl, rfl⟩ | (refine ⟨?_, ?_⟩ <;> rfl))) : walkR P kk ops n w0.drew Bs rs K i (o :: os) (.q [] :: ks) (v :: vs) (c :: cs) s d :=
  walkR_q hg (fun X hX w hw _ => h1 X hX w hw) h2
theorem rqy {j t : Nat} {b : Bool} (h2 : walkR P kk ops n w0.drew Bs rs K (i + 1) os ks vs cs (fun X => updS (s X) o.dst (v X)) d) (hg : o.guard = some (j, b) := by rfl) (hd : (ops[j]?).bind (·.dst) = some t := by rfl) (hn : t < n := by decide)
    (hs : ∀ X, Good kk ops.size w0.drew Bs X → s X t = .bool b := by intro X hX; go_simp)
    (h1 : ∀ X, Good kk ops.size w0.drew Bs X → ∀ w, OldB Bs w0.drew w → quietB P w (v X) ((execOp (evF n (s X)) o).run P w) := by intro X hX wq hwq; (first | obtain ⟨hcq, hfq⟩ := OldB.b0 hwq | obtain ⟨hcq, hfq⟩ := OldB.b1 hwq | obtain ⟨hcq, hfq⟩ := OldB.b2 hwq | obtain ⟨hcq, hfq⟩ := OldB.b3 hwq); go_simp; (first | rfl | exact ⟨rfl, rfl⟩ | (refine ⟨?_, ?_⟩ <;> rfl))) : walkR P kk ops n w0.drew Bs rs K i (o :: os) (.q [] :: ks) (v :: vs) (c :: cs) s d :=
  walkR_qg hg hd hn hs (fun X hX w hw _ => h1 X hX w hw) h2
theorem dR {len : Nat} {M : Array Nat} (h2 : depR len M (i + 1) vs cs) (h : ∀ X X' : Ad, v X = v X' ∧ c X = c X' := by intro X X'; exact ⟨rfl, rfl⟩) : depR len M i (v :: vs) (c :: cs) := depR_cons (fun X X' _ => h X X') h2
end
theorem cB {P : Program} {f : FuncId} {args : Array Value} {w : World} {v : Value} (h : Calls P f args w fun e w' => e = .returned v ∧ w = w') : Calls P f args w fun e w' => e = .returned v ∧ Below w.heap.size w w' := h.mono fun e w' ⟨a, b⟩ => ⟨a, b ▸ Below.refl _ _⟩
/-- the value of a slot in a new frame: kept, and set -/
theorem gs {s' S S0 : Nat → Value} (t : Nat) {v : Value} (hs : s' = S) (h0 : S0 t = v) (h : S t = S0 t := by first | (simp only [updS_some, updS_none, Nat.reduceEqDiff, ↓reduceIte]; done) | rfl) : s' t = v := by rw [hs, h]; exact h0
theorem gu {s' S : Nat → Value} (t : Nat) {v : Value} (hs : s' = S) (h : S t = v := by (simp only [updS_some, updS_none, Nat.reduceEqDiff, ↓reduceIte]); rfl) : s' t = v := by rw [hs, h]
theorem boolG {v : Value} {E : Bool} {G : Prop} (h : v = .bool E) (h1 : v = .bool true → E = true → G) (h2 : v = .bool false → E = false → G) : G := by cases E <;> simp_all
theorem OldB.gB {Bs : List Nat} {w0 w : World} {B : Nat} (h : OldB Bs w0 w) (hB : B = w.heap.size) : w0.heap.size ≤ B := by have := h.size; omega
theorem oB {a n B : Nat} (h : a < n) (hB : B = n) : a < B := by omega
theorem eB {n B : Nat} (hB : B = n) : n ≤ B := by omega
theorem oldset {Bs : List Nat} {w0 w wX : World} (h : w = wX) (ho : OldB Bs w0 wX := by repeat (first | exact OldB.refl _ _ | refine OldB.set ?_ (by simp))) : OldB Bs w0 w := by rw [h]; exact ho
def isStop : Code → Bool
  | .region .. => true
  | .cond .. => true
  | _ => false
theorem stp {P : Program} {c : Code} {Q : Exit → Act → World → Prop} {a : Act} {w : World} (h : c.wp P Q a w) (_ : isStop c = true := by rfl) : c.wp P Q a w := h
theorem cond_t {P : Program} {c : Operand} {x y : Code} {n : Nat} {ds : List Deferred} {Q : Exit → Act → World → Prop} {s : Nat → Value} {w : World} (h : x.wp P Q (mkA n s ds) w) (hc : evF n s c = .bool true := by go_simp; done) : (Code.cond c x y).wp P Q (mkA n s ds) w :=
  cond_F true hc (by simpa using h)
theorem cond_f {P : Program} {c : Operand} {x y : Code} {n : Nat} {ds : List Deferred} {Q : Exit → Act → World → Prop} {s : Nat → Value} {w : World} (h : y.wp P Q (mkA n s ds) w) (hc : evF n s c = .bool false := by go_simp; done) : (Code.cond c x y).wp P Q (mkA n s ds) w :=
  cond_F false hc (by simpa using h)

end Go.Proofs.Ytndcmmghgljinaa
