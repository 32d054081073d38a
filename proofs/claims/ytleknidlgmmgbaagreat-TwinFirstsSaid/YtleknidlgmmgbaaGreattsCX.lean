/- Short forms: steps between regions, cells, what stays. -/
import Derived.Test.YtleknidlgmmgbaaGreattsG1
import Derived.Test.YtleknidlgmmgbaaGreattsG13
import Derived.Test.YtleknidlgmmgbaaGreattsG7
set_option linter.all false
namespace Go.Proofs.YtleknidlgmmgbaaGreat
open Go.RowKit

theorem nxi {A B : Prop} (h : B) (e : B → A := by intro h; (repeat (first | with_reducible refine wpIn_seq ?_ | with_reducible refine wpIn_block ?_ | with_reducible refine then_n ?_ | with_reducible refine inB_n ?_ | with_reducible refine wpIn_exit ?_ | with_reducible refine then_x ?_ | with_reducible refine inB_x ?_ | with_reducible refine wpIn_ret ?_ | with_reducible refine then_r ?_ | with_reducible refine inB_r ?_ | with_reducible refine wpIn_skip ?_)); exact h) : A := e h
theorem nli {P : Program} {ops : Array Oper} {n : Nat} {K : (Nat → Value) → World → Prop} {s : Nat → Value} {w : World} {B : Prop} (h : B) (e : B → K s w := by intro h; (repeat (first | with_reducible refine wpIn_seq ?_ | with_reducible refine wpIn_block ?_ | with_reducible refine then_n ?_ | with_reducible refine inB_n ?_ | with_reducible refine wpIn_exit ?_ | with_reducible refine then_x ?_ | with_reducible refine inB_x ?_ | with_reducible refine wpIn_ret ?_ | with_reducible refine then_r ?_ | with_reducible refine inB_r ?_ | with_reducible refine wpIn_skip ?_)); exact h) : listF P ops n K [] s w := e h
theorem Cells.oB {w w' : World} {Bs : List Nat} {b : Nat} {l : List Value} (h : Cells w b l) (ho : OldB Bs w w') (hb : b ∉ Bs := by first | (simp; done) | (simp; omega)) : Cells w' b l := h.oldB ho hb
theorem mO {Bs Cs : List Nat} {w0 w w' : World} (h : Hid (OldB Bs w0 w)) (h' : OldB Cs w w') (hc : ∀ c ∈ Cs, w0.heap.size ≤ c ∨ c ∈ Bs := by simp; try omega) : Hid (OldB Bs w0 w') := hid (h.out.more h' hc)
theorem bE {Bs : List Nat} {w0 w w' : World} (h : Hid (OldB Bs w0 w)) (hb : Below w.heap.size w w') : Hid (OldB Bs w0 w') := hid (h.out.below hb)
theorem cl3 {w : World} {b : Nat} {x0 x1 x2 : Value} (k : Cells w b [x0, x1, x2]) : w.cell? ⟨b, 0, none⟩ = some x0 ∧ w.cell? ⟨b, 1, none⟩ = some x1 ∧ w.cell? ⟨b, 2, none⟩ = some x2 := ⟨k.cell 0 rfl, k.cell 1 rfl, k.cell 2 rfl⟩
theorem cl4 {w : World} {b : Nat} {x0 x1 x2 x3 : Value} (k : Cells w b [x0, x1, x2, x3]) : w.cell? ⟨b, 0, none⟩ = some x0 ∧ w.cell? ⟨b, 1, none⟩ = some x1 ∧ w.cell? ⟨b, 2, none⟩ = some x2 ∧ w.cell? ⟨b, 3, none⟩ = some x3 := ⟨k.cell 0 rfl, k.cell 1 rfl, k.cell 2 rfl, k.cell 3 rfl⟩
theorem cl7 {w : World} {b : Nat} {x0 x1 x2 x3 x4 x5 x6 : Value} (k : Cells w b [x0, x1, x2, x3, x4, x5, x6]) : w.cell? ⟨b, 0, none⟩ = some x0 ∧ w.cell? ⟨b, 1, none⟩ = some x1 ∧ w.cell? ⟨b, 2, none⟩ = some x2 ∧ w.cell? ⟨b, 3, none⟩ = some x3 ∧ w.cell? ⟨b, 4, none⟩ = some x4 ∧ w.cell? ⟨b, 5, none⟩ = some x5 ∧ w.cell? ⟨b, 6, none⟩ = some x6 := ⟨k.cell 0 rfl, k.cell 1 rfl, k.cell 2 rfl, k.cell 3 rfl, k.cell 4 rfl, k.cell 5 rfl, k.cell 6 rfl⟩
theorem cl8 {w : World} {b : Nat} {x0 x1 x2 x3 x4 x5 x6 x7 : Value} (k : Cells w b [x0, x1, x2, x3, x4, x5, x6, x7]) : w.cell? ⟨b, 0, none⟩ = some x0 ∧ w.cell? ⟨b, 1, none⟩ = some x1 ∧ w.cell? ⟨b, 2, none⟩ = some x2 ∧ w.cell? ⟨b, 3, none⟩ = some x3 ∧ w.cell? ⟨b, 4, none⟩ = some x4 ∧ w.cell? ⟨b, 5, none⟩ = some x5 ∧ w.cell? ⟨b, 6, none⟩ = some x6 ∧ w.cell? ⟨b, 7, none⟩ = some x7 := ⟨k.cell 0 rfl, k.cell 1 rfl, k.cell 2 rfl, k.cell 3 rfl, k.cell 4 rfl, k.cell 5 rfl, k.cell 6 rfl, k.cell 7 rfl⟩
theorem cl10 {w : World} {b : Nat} {x0 x1 x2 x3 x4 x5 x6 x7 x8 x9 : Value} (k : Cells w b [x0, x1, x2, x3, x4, x5, x6, x7, x8, x9]) : w.cell? ⟨b, 0, none⟩ = some x0 ∧ w.cell? ⟨b, 1, none⟩ = some x1 ∧ w.cell? ⟨b, 2, none⟩ = some x2 ∧ w.cell? ⟨b, 3, none⟩ = some x3 ∧ w.cell? ⟨b, 4, none⟩ = some x4 ∧ w.cell? ⟨b, 5, none⟩ = some x5 ∧ w.cell? ⟨b, 6, none⟩ = some x6 ∧ w.cell? ⟨b, 7, none⟩ = some x7 ∧ w.cell? ⟨b, 8, none⟩ = some x8 ∧ w.cell? ⟨b, 9, none⟩ = some x9 := ⟨k.cell 0 rfl, k.cell 1 rfl, k.cell 2 rfl, k.cell 3 rfl, k.cell 4 rfl, k.cell 5 rfl, k.cell 6 rfl, k.cell 7 rfl, k.cell 8 rfl, k.cell 9 rfl⟩

theorem lsa {P : Program} {ops : Array Oper} {n : Nat} {K : (Nat → Value) → World → Prop} {l : List Oper} {S : Nat → Value} {w : World} (h : ∀ s', s' = S → listF P ops n K l s' w) : listF P ops n K l S w := h S rfl
theorem lsn {P : Program} {ops : Array Oper} {n : Nat} {K : (Nat → Value) → World → Prop} {s : Nat → Value} {w : World} (h : K s w) : listF P ops n K [] s w := h
theorem slg {s' S S0 : Nat → Value} {t : Nat} {v : Value} (hs : s' = S) (h0 : S0 t = v) (h : S t = S0 t := by first | (simp only [updS_some, updS_none, Nat.reduceEqDiff, ↓reduceIte]; done) | rfl) : s' t = v := by rw [hs, h]; exact h0
theorem rL {a v b : Value} (h : a = v) (e : v = b := by first | (with_reducible rfl) | ((with_reducible go_num); done) | (rw [IntWalk.i64_in] <;> first | ((with_reducible go_num); done) | omega) | (go_num; done) | (simp; done) | (simp; omega)) : a = b := h.trans e
theorem cal {P : Program} {ops : Array Oper} {n : Nat} {K : (Nat → Value) → World → Prop} {s : Nat → Value} {w : World} {o : Oper} {os : List Oper} {f : Nat} {args : Array Value} {F : Ending → World → Prop} (hc : Calls P f args w F) (h : ∀ e w', F e w' → ∃ v, e = .returned v ∧ listF P ops n K os (updS s o.dst v) w') (hg : o.guard = none := by rfl)
    (hop : ∀ K' : Value → World → Prop, Calls P f args w (fun e w' => ∃ v, e = .returned v ∧ K' v w') → opF P o n s w K' := by intro K' h; unfold opF; go_simp; (try exact h)) : listF P ops n K (o :: os) s w :=
  listF_step hg (fun K' hK => hop K' (hc.mono (fun e w' hF => by obtain ⟨v, h1, h2⟩ := h e w' hF; exact ⟨v, h1, hK v w' h2⟩)))

theorem oV {P : Program} {n : Nat} {o : Oper} {w0 : World} {s : Nat → Value} {v : Value} (h : ∀ K' : Value → World → Prop, K' v w0 → opF P o n s w0 K' := by intro K' hK; unfold opF; go_simp; exact hK) : opF P o n s w0 (fun v' w'' => v' = v ∧ Below w0.heap.size w0 w'') := opV_val h
theorem mV {t : Value} : ∀ (v : Value) (_ _ : Nat) (w w' : World), v = t → Below w.heap.size w w' → v = t := fun _ _ _ _ _ h _ => h

end Go.Proofs.YtleknidlgmmgbaaGreat
