/- Awake: the example's calls, and what it compares. -/
import Derived.Test.YtbjgebbfachgfaacW41
import Derived.Test.YtbjgebbfachgfaacJ9
set_option linter.unusedVariables false
set_option linter.unusedSimpArgs false
set_option linter.unusedSectionVars false
set_option linter.all false
namespace Go.Proofs.Ytbjgebbfachgfaa
open Go.RowKit

theorem ex_in {w : World} {b : Nat} (h : RdJobs w (some ⟨b, 0, none⟩) exJobs) : WorkIn w exWork (some ⟨b, 0, none⟩) none := by
  refine ⟨h, .inl rfl, by decide, by decide, fun i hi => ?_⟩
  have hi3 : i < 3 := hi
  match i, hi3 with
  | 0, _ => show (ByteArray.mk #[97]).size ≤ 9223372036854775807; decide
  | 1, _ => show (ByteArray.mk #[98]).size ≤ 9223372036854775807; decide
  | 2, _ => show (ByteArray.mk #[99]).size ≤ 9223372036854775807; decide
theorem exDay_any {w : World} {b : Nat} (h : RdJobs w (some ⟨b, 0, none⟩) exJobs) : Calls Try.prog 24 #[.agg #[.int .i64 10, .int .i64 2, .int .i64 1, .int .i64 30, .int .i64 5, .slice (some ⟨b, 0, none⟩) 3 3, .slice none 0 0], .int .i64 100] w fun e w' => ∃ a c a' c', e = .returned (.tuple #[.slice a 5 c, .agg #[.int .i64 46, .slice a' 3 c'], .int .i64 0]) ∧ RdSpells w' a exSpells ∧ RdSts w' a' exEnd ∧ Below w.heap.size w w' := by
  refine (qDay_any exWork 100 (some ⟨b, 0, none⟩) none 3 0 w (ex_in h)).mono ?_
  rintro e w' ⟨a, c, a', c', he, hl, hq, hb, _⟩
  rw [ex_day, ex_dayErr] at he
  rw [ex_day] at hl hq
  exact ⟨a, c, a', c', he, hl, hq, hb⟩
theorem exBill_any {w : World} {b : Nat} (h : RdJobs w (some ⟨b, 0, none⟩) exJobs) : Calls Try.prog 27 #[.agg #[.int .i64 10, .int .i64 2, .int .i64 1, .int .i64 30, .int .i64 5, .slice (some ⟨b, 0, none⟩) 3 3, .slice none 0 0], .int .i64 100] w fun e w' => ∃ a c, e = .returned (.tuple #[.slice a 3 c, .agg #[.int .i64 46, .int .i64 0, .int .i64 0, .int .i64 0], .int .i64 0]) ∧ RdInts w' a [165, 35, 30] ∧ Below w.heap.size w w' := by
  refine (qBill_any exWork 100 (some ⟨b, 0, none⟩) none 3 0 w (ex_in h)).mono ?_
  rintro e w' ⟨a, c, he, hl, hb⟩
  rw [ex_bill] at he hl
  exact ⟨a, c, he, hl, hb⟩
theorem exAt_any {w : World} {b : Nat} (h : RdJobs w (some ⟨b, 0, none⟩) exJobs) : Calls Try.prog 51 #[.agg #[.int .i64 10, .int .i64 2, .int .i64 1, .int .i64 30, .int .i64 5, .slice (some ⟨b, 0, none⟩) 3 3, .slice none 0 0], .int .i64 13] w fun e w' => ∃ a c, e = .returned (.agg #[.int .i64 13, .slice a 3 c]) ∧ RdSts w' a exMid ∧ Below w.heap.size w w' := by
  refine (rQueueAt_any exWork 13 (some ⟨b, 0, none⟩) none 3 0 w (ex_in h)).mono ?_
  rintro e w' ⟨a, c, he, hq, hb⟩
  rw [ex_mid] at he hq
  exact ⟨a, c, he, hq, hb⟩
theorem exNext_any {w : World} {b : Nat} {a : Option Addr} {c : Nat} (h : RdJobs w (some ⟨b, 0, none⟩) exJobs) (hq : RdSts w a exMid) : Calls Try.prog 22 #[.agg #[.int .i64 10, .int .i64 2, .int .i64 1, .int .i64 30, .int .i64 5, .slice (some ⟨b, 0, none⟩) 3 3, .slice none 0 0], .agg #[.int .i64 13, .slice a 3 c]] w fun e w' => ∃ a c, e = .returned (.tuple #[.agg #[.int .i64 3, .int .i64 2, .int .i64 13, .int .i64 19], .agg #[.int .i64 19, .slice a 3 c], .int .i64 0]) ∧ Below w.heap.size w w' := by
  refine (qNext_any exWork ⟨13, exMid⟩ (some ⟨b, 0, none⟩) none a 3 0 c w (ex_in h) hq).mono ?_
  rintro e w' ⟨a, c, he, _, hb⟩
  rw [ex_next] at he
  exact ⟨a, c, he, hb⟩
theorem exOver_any {w : World} {b : Nat} {a : Option Addr} {c : Nat} (h : RdJobs w (some ⟨b, 0, none⟩) exJobs) (hq : RdSts w a exEnd) : Calls Try.prog 22 #[.agg #[.int .i64 10, .int .i64 2, .int .i64 1, .int .i64 30, .int .i64 5, .slice (some ⟨b, 0, none⟩) 3 3, .slice none 0 0], .agg #[.int .i64 46, .slice a 3 c]] w fun e w' => ∃ a c, e = .returned (.tuple #[.agg #[.int .i64 0, .int .i64 0, .int .i64 0, .int .i64 0], .agg #[.int .i64 0, .slice a 0 c], .int .i64 9]) ∧ Below w.heap.size w w' := by
  refine (qNext_any exWork ⟨46, exEnd⟩ (some ⟨b, 0, none⟩) none a 3 0 c w (ex_in h) hq).mono ?_
  rintro e w' ⟨a, c, he, _, hb⟩
  rw [ex_over] at he
  exact ⟨a, c, he, hb⟩
theorem exQuote_any (w : World) : Calls Try.prog 30 #[.agg #[.int .i64 10, .int .i64 2, .int .i64 1, .int .i64 30, .int .i64 5], .agg #[.string ⟨#[97]⟩, .int .i64 0, .int .i64 25, .int .i64 25]] w fun e w' => e = .returned (.tuple #[.int .i64 165, .int .i64 0]) ∧ Below w.heap.size w w' := by
  refine (qquote_any exRules ⟨⟨#[97]⟩, 0, 25, 25⟩ w).mono ?_
  rintro e w' ⟨he, hb⟩
  rw [ex_quote.1, ex_quote.2] at he
  exact ⟨he, hb⟩
theorem exLongest_any (w : World) : Calls Try.prog 32 #[.agg #[.int .i64 10, .int .i64 2, .int .i64 1, .int .i64 30, .int .i64 5], .int .i64 3] w fun e w' => e = .returned (.tuple #[.int .i64 69, .int .i64 0]) ∧ Below w.heap.size w w' := by
  refine (qlongest_any exRules 3 w).mono ?_
  rintro e w' ⟨he, hb⟩
  rw [ex_longest.1, ex_longest.2] at he
  exact ⟨he, hb⟩

theorem walkR_ag {P : Program} {kk : List OK} {ops : Array Oper} {n : Nat} {w0 : World} {Bs rs : List Nat} {K : (Nat → Value) → World → Prop} {i : Nat} {o : Oper} {os : List Oper} {ks : List OK} {v : Ad → Value} {c : Ad → List Value} {vs : List (Ad → Value)} {cs : List (Ad → List Value)} {s : Ad → Nat → Value} {d : Ad → Nat → List Value}
    {j t : Nat} {b : Bool} (hg : o.guard = some (j, b)) (hd : (ops[j]?).bind (·.dst) = some t) (hn : t < n) (hs : ∀ X, Good kk ops.size w0 Bs X → s X t = .bool b)
    (h1 : ∀ X, Good kk ops.size w0 Bs X → ∀ w, OldB Bs w0 w → w.heap.size = X i → newB w (v X) (c X) ((execOp (evF n (s X)) o).run P w))
    (h2 : walkR P kk ops n w0 Bs rs K (i + 1) os ks vs cs (fun X => updS (s X) o.dst (v X)) (fun X => updC (d X) (some i) (c X))) : walkR P kk ops n w0 Bs rs K i (o :: os) (.a :: ks) (v :: vs) (c :: cs) s d :=
  ⟨fun X hX => ⟨by rw [wanted_F hg hd hn (hs X hX)]; simp, h1 X hX⟩, h2⟩
theorem exInts_c {w wq : World} {a : Option Addr} {cc J : Nat} (hi : RdInts w a [165, 35, 30]) (ho : OldB [] w.drew wq) (k : Cells wq J [.int .i64 165, .int .i64 35, .int .i64 30]) :
    Calls Try.prog 29 #[.slice a 3 cc, .slice (some ⟨J, 0, none⟩) 3 3] wq fun e w' => e = .returned (.bool true) ∧ Below wq.heap.size wq w' := by
  refine (rints_any a (some ⟨J, 0, none⟩) cc 3 [165, 35, 30] [165, 35, 30] wq (by decide) (by decide) (Rd.old hi ho (by simp)) (Cells.rd (f := fun n : Int => [Value.int .i64 n]) (m := 1) (fun _ => rfl) k)).mono ?_
  rintro e w' ⟨he, hb⟩
  exact ⟨by rw [he]; rfl, hb⟩
theorem exSpells_c {w wq : World} {a : Option Addr} {cc J : Nat} (hi : RdSpells w a exSpells) (ho : OldB [] w.drew wq) (k : Cells wq J (exSpells.flatMap Spell.cs)) :
    Calls Try.prog 26 #[.slice a 5 cc, .slice (some ⟨J, 0, none⟩) 5 5] wq fun e w' => e = .returned (.bool true) ∧ Below wq.heap.size wq w' := by
  refine (rspells_any a (some ⟨J, 0, none⟩) cc 5 exSpells exSpells wq (by decide) (by decide) (Rd.old hi ho (by simp)) (Cells.rd (f := Spell.cs) (m := 4) (fun _ => rfl) k)).mono ?_
  rintro e w' ⟨he, hb⟩
  exact ⟨by rw [he]; rfl, hb⟩
def AwP2 (w : World) (v : Value) (l3 : Bool) : Prop := ∃ a c, v = .agg #[.int .i64 13, .slice a 3 c] ∧ (l3 = false → RdSts w a exMid)
theorem AwP2.at {w w' : World} {v : Value} {l3 : Bool} (h : AwP2 w v l3) (hb : Below w.heap.size w w') : AwP2 w' v l3 := by
  obtain ⟨a, c, h1, h2⟩ := h; exact ⟨a, c, h1, fun e => Rd.at (h2 e) hb⟩
theorem AwP2.off {w w' : World} {v : Value} {l3 : Bool} (h : AwP2 w v l3) : AwP2 w' v true := by
  obtain ⟨a, c, h1, h2⟩ := h; exact ⟨a, c, h1, fun e => by cases e⟩
theorem AwP2.done {w w' : World} {v : Value} {l3 : Bool} (h : AwP2 w v l3) (h3 : l3 = true) : AwP2 w' v l3 := by subst h3; exact h.off
def AwP8 (N : Nat) (w : World) (v : Value) (l : Bool) : Prop := ∃ X, v = .pointer (some ⟨X, 0, none⟩) ∧ N ≤ X ∧ Cells w X (if l then [.int .i64 3, .int .i64 2, .int .i64 13, .int .i64 19] else [.int .i64 0, .int .i64 0, .int .i64 0, .int .i64 0])
theorem AwP8.at {N : Nat} {w w' : World} {v : Value} {l : Bool} (h : AwP8 N w v l) (hb : Below w.heap.size w w') : AwP8 N w' v l := by
  obtain ⟨X, h1, h2, h3⟩ := h; exact ⟨X, h1, h2, h3.at hb⟩
theorem AwP8.new {N : Nat} {w : World} {l : Bool} {T : TypeId} (hl : l = false) (hN : N ≤ w.heap.size) : AwP8 N (w.alloc (.cells #[.int .i64 0, .int .i64 0, .int .i64 0, .int .i64 0] T)) (.pointer (some ⟨w.heap.size, 0, none⟩)) l := by
  subst hl; exact ⟨_, rfl, hN, Cells.new (cs := #[.int .i64 0, .int .i64 0, .int .i64 0, .int .i64 0]) rfl⟩
def AwP9 (N : Nat) (w : World) (v : Value) : Prop := ∃ Y x y, v = .pointer (some ⟨Y, 0, none⟩) ∧ N ≤ Y ∧ Cells w Y [x, y]
theorem AwP9.at {N : Nat} {w w' : World} {v : Value} (h : AwP9 N w v) (hb : Below w.heap.size w w') : AwP9 N w' v := by
  obtain ⟨X, x, y, h1, h2, h3⟩ := h; exact ⟨X, x, y, h1, h2, h3.at hb⟩
theorem exQuote_c {N : Nat} {w0 wq : World} (h : Below N w0 wq) (hN : N ≤ wq.heap.size) : Calls Try.prog 30 #[.agg #[.int .i64 10, .int .i64 2, .int .i64 1, .int .i64 30, .int .i64 5], .agg #[.string ⟨#[97]⟩, .int .i64 0, .int .i64 25, .int .i64 25]] wq fun e w' => e = .returned (.tuple #[.int .i64 165, .int .i64 0]) ∧ Below N w0 w' :=
  (exQuote_any wq).mono fun _ _ ⟨h1, h2⟩ => ⟨h1, h.trans (h2.mono hN)⟩
theorem exJob0 {w : World} {b : Nat} (h : RdJobs w (some ⟨b, 0, none⟩) exJobs) : b < w.heap.size ∧ w.cell? ⟨b, 0, none⟩ = some (.string ⟨#[97]⟩) ∧ w.cell? ⟨b, 1, none⟩ = some (.int .i64 0) ∧ w.cell? ⟨b, 2, none⟩ = some (.int .i64 25) ∧ w.cell? ⟨b, 3, none⟩ = some (.int .i64 25) := by
  rcases h with h | ⟨b', off, ha, hlt, hc⟩
  · cases h
  · cases ha
    exact ⟨hlt, hc 0 _ rfl 0 _ rfl, hc 0 _ rfl 1 _ rfl, hc 0 _ rfl 2 _ rfl, hc 0 _ rfl 3 _ rfl⟩

def seq2 : Code → Code
  | .seq _ y => y
  | c => c
set_option maxRecDepth 100000 in
set_option maxHeartbeats 8000000 in
theorem awake_tail {w w' : World} {s : Nat → Value} {b B B3 B6 X : Nat} {a2 a3 a5 : Option Addr} {cc2 cc3 cc5 : Nat} (sl1 : s 1 = .pointer (some ⟨B, 0, none⟩)) (sl2 : s 2 = .slice a2 5 cc2) (sl3 : s 3 = .pointer (some ⟨B3, 0, none⟩)) (sl4 : s 4 = .int .i64 0) (sl5 : s 5 = .slice a5 3 cc5) (sl6 : s 6 = .pointer (some ⟨B6, 0, none⟩)) (sl7 : s 7 = .int .i64 0) (sl8 : s 8 = .int .i64 165) (sl9 : s 9 = .int .i64 0) (sl10 : s 10 = .int .i64 69) (sl11 : s 11 = .int .i64 0) (sl14 : s 14 = .int .i64 0) (sl12 : s 12 = .pointer (some ⟨X, 0, none⟩))
    (kX : Cells w' X [.int .i64 3, .int .i64 2, .int .i64 13, .int .i64 19]) (k1 : Cells w' B [.int .i64 10, .int .i64 2, .int .i64 1, .int .i64 30, .int .i64 5, .slice (some ⟨b, 0, none⟩) 3 3, .slice none 0 0]) (k3 : Cells w' B3 [.int .i64 46, .slice a3 3 cc3]) (k6 : Cells w' B6 [.int .i64 46, .int .i64 0, .int .i64 0, .int .i64 0])
    (hj : RdJobs w' (some ⟨b, 0, none⟩) exJobs) (hl : RdSpells w' a2 exSpells) (hq : RdSts w' a3 exEnd) (hi : RdInts w' a5 [165, 35, 30]) (HB9 : Hid (Below w.heap.size w w')) :
    (seq2 (seq2 (seq2 (seq2 (seq2 (seq2 (seq2 (Try.f21.body.getD .skip)))))))).wp Try.prog (bodyPost Try.prog Try.f21 fun e w' => e = .returned (.bool true) ∧ Below w.heap.size w w') (mkA 117 s []) w' := by
  simp only [Try.f21, Option.getD_some, seq2]
  have c0 := k1.cell 0 rfl
  have c1 := k1.cell 1 rfl
  have c2 := k1.cell 2 rfl
  have c3 := k1.cell 3 rfl
  have c4 := k1.cell 4 rfl
  have c5 := k1.cell 5 rfl
  have c6 := k1.cell 6 rfl
  have cs := k1.1
  have d0 := k3.cell 0 rfl
  have d1 := k3.cell 1 rfl
  have ds := k3.1
  repeat (first | ((first | (refine listF_step rfl (fun K' hK => ?_)) | (refine listF_yes rfl rfl (by decide) ?_ (fun K' hK => ?_); (focus (go_simp; done)))); unfold opF; go_simp; (refine hK _ _ ?_); clear hK K') | (refine listF_no (b' := true) rfl rfl (by decide) ?_ ?_ ?_; (focus (go_simp; done)); (focus rfl)) | (refine listF_no (b' := false) rfl rfl (by decide) ?_ ?_ ?_; (focus (go_simp; done)); (focus rfl)) | (refine listF_nu rfl rfl (by decide) ?_ ?_; (focus (go_simp; done))) | (refine listF_nil ?_) | (refine region_F ?_) | (refine cond_F true ?_ ?_; (focus (go_simp; done)); simp only [if_true]) | (refine cond_F false ?_ ?_; (focus (go_simp; done)); simp only [Bool.false_eq_true, if_false]) | (with_reducible go_step))
  (refine listF_abs ?_; intro s' hs'; have gl2 := congrFun hs' 2; simp only [updS_some, updS_none, Nat.reduceEqDiff, ↓reduceIte] at gl2; (try rw [sl2] at gl2); have gl4 := congrFun hs' 4; simp only [updS_some, updS_none, Nat.reduceEqDiff, ↓reduceIte] at gl4; (try rw [sl4] at gl4); have gl5 := congrFun hs' 5; simp only [updS_some, updS_none, Nat.reduceEqDiff, ↓reduceIte] at gl5; (try rw [sl5] at gl5); have gl6 := congrFun hs' 6; simp only [updS_some, updS_none, Nat.reduceEqDiff, ↓reduceIte] at gl6; (try rw [sl6] at gl6); have gl7 := congrFun hs' 7; simp only [updS_some, updS_none, Nat.reduceEqDiff, ↓reduceIte] at gl7; (try rw [sl7] at gl7); have gl8 := congrFun hs' 8; simp only [updS_some, updS_none, Nat.reduceEqDiff, ↓reduceIte] at gl8; (try rw [sl8] at gl8); have gl9 := congrFun hs' 9; simp only [updS_some, updS_none, Nat.reduceEqDiff, ↓reduceIte] at gl9; (try rw [sl9] at gl9); have gl10 := congrFun hs' 10; simp only [updS_some, updS_none, Nat.reduceEqDiff, ↓reduceIte] at gl10; (try rw [sl10] at gl10); have gl11 := congrFun hs' 11; simp only [updS_some, updS_none, Nat.reduceEqDiff, ↓reduceIte] at gl11; (try rw [sl11] at gl11); have gl12 := congrFun hs' 12; simp only [updS_some, updS_none, Nat.reduceEqDiff, ↓reduceIte] at gl12; (try rw [sl12] at gl12); have gl14 := congrFun hs' 14; simp only [updS_some, updS_none, Nat.reduceEqDiff, ↓reduceIte] at gl14; (try rw [sl14] at gl14); have gl56 := congrFun hs' 56; simp only [updS_some, updS_none, Nat.reduceEqDiff, ↓reduceIte] at gl56; (try rw [sl56] at gl56); have gl57 := congrFun hs' 57; simp only [updS_some, updS_none, Nat.reduceEqDiff, ↓reduceIte] at gl57; (try rw [sl57] at gl57); clear hs'; (try clear sl2); (try clear sl4); (try clear sl5); (try clear sl6); (try clear sl7); (try clear sl8); (try clear sl9); (try clear sl10); (try clear sl11); (try clear sl12); (try clear sl14); (try clear sl56); (try clear sl57); have sl2 := gl2; clear gl2; have sl4 := gl4; clear gl4; have sl5 := gl5; clear gl5; have sl6 := gl6; clear gl6; have sl7 := gl7; clear gl7; have sl8 := gl8; clear gl8; have sl9 := gl9; clear gl9; have sl10 := gl10; clear gl10; have sl11 := gl11; clear gl11; have sl12 := gl12; clear gl12; have sl14 := gl14; clear gl14; have sl56 := gl56; clear gl56; have sl57 := gl57; clear gl57)
  (refine listF_step rfl (fun K' hK => ?_); unfold opF; go_simp; refine (exOver_any hj hq).mono ?_; rintro e wa ⟨ay, cy, rfl, hba⟩; refine ⟨_, rfl, hK _ _ ?_⟩; clear hK K')
  replace k6 := k6.at hba
  replace kX := kX.at hba
  replace hl := Rd.at hl hba
  replace hi := Rd.at hi hba
  have HBa := hid (HB9.out.trans (hba.mono HB9.out.size) : Below w.heap.size w wa)
  clear c0 c1 c2 c3 c4 c5 c6 cs d0 d1 ds hba HB9 k1 k3 hj hq
  (refine listF_abs ?_; intro s' hs'; have gl2 := congrFun hs' 2; simp only [updS_some, updS_none, Nat.reduceEqDiff, ↓reduceIte] at gl2; (try rw [sl2] at gl2); have gl4 := congrFun hs' 4; simp only [updS_some, updS_none, Nat.reduceEqDiff, ↓reduceIte] at gl4; (try rw [sl4] at gl4); have gl5 := congrFun hs' 5; simp only [updS_some, updS_none, Nat.reduceEqDiff, ↓reduceIte] at gl5; (try rw [sl5] at gl5); have gl6 := congrFun hs' 6; simp only [updS_some, updS_none, Nat.reduceEqDiff, ↓reduceIte] at gl6; (try rw [sl6] at gl6); have gl7 := congrFun hs' 7; simp only [updS_some, updS_none, Nat.reduceEqDiff, ↓reduceIte] at gl7; (try rw [sl7] at gl7); have gl8 := congrFun hs' 8; simp only [updS_some, updS_none, Nat.reduceEqDiff, ↓reduceIte] at gl8; (try rw [sl8] at gl8); have gl9 := congrFun hs' 9; simp only [updS_some, updS_none, Nat.reduceEqDiff, ↓reduceIte] at gl9; (try rw [sl9] at gl9); have gl10 := congrFun hs' 10; simp only [updS_some, updS_none, Nat.reduceEqDiff, ↓reduceIte] at gl10; (try rw [sl10] at gl10); have gl11 := congrFun hs' 11; simp only [updS_some, updS_none, Nat.reduceEqDiff, ↓reduceIte] at gl11; (try rw [sl11] at gl11); have gl12 := congrFun hs' 12; simp only [updS_some, updS_none, Nat.reduceEqDiff, ↓reduceIte] at gl12; (try rw [sl12] at gl12); have gl14 := congrFun hs' 14; simp only [updS_some, updS_none, Nat.reduceEqDiff, ↓reduceIte] at gl14; (try rw [sl14] at gl14); have gl58 := congrFun hs' 58; simp only [updS_some, updS_none, Nat.reduceEqDiff, ↓reduceIte] at gl58; (try rw [sl58] at gl58); clear hs'; (try clear sl2); (try clear sl4); (try clear sl5); (try clear sl6); (try clear sl7); (try clear sl8); (try clear sl9); (try clear sl10); (try clear sl11); (try clear sl12); (try clear sl14); (try clear sl58); have sl2 := gl2; clear gl2; have sl4 := gl4; clear gl4; have sl5 := gl5; clear gl5; have sl6 := gl6; clear gl6; have sl7 := gl7; clear gl7; have sl8 := gl8; clear gl8; have sl9 := gl9; clear gl9; have sl10 := gl10; clear gl10; have sl11 := gl11; clear gl11; have sl12 := gl12; clear gl12; have sl14 := gl14; clear gl14; have sl58 := gl58; clear gl58)
  repeat (first | ((first | (refine listF_step rfl (fun K' hK => ?_)) | (refine listF_yes rfl rfl (by decide) ?_ (fun K' hK => ?_); (focus (go_simp; done)))); unfold opF; go_simp; (refine hK _ _ ?_); clear hK K') | (refine listF_no (b' := true) rfl rfl (by decide) ?_ ?_ ?_; (focus (go_simp; done)); (focus rfl)) | (refine listF_no (b' := false) rfl rfl (by decide) ?_ ?_ ?_; (focus (go_simp; done)); (focus rfl)) | (refine listF_nu rfl rfl (by decide) ?_ ?_; (focus (go_simp; done))) | (refine listF_nil ?_) | (refine region_F ?_) | (refine cond_F true ?_ ?_; (focus (go_simp; done)); simp only [if_true]) | (refine cond_F false ?_ ?_; (focus (go_simp; done)); simp only [Bool.false_eq_true, if_false]) | (with_reducible go_step))
  refine wp_absw ?_
  intro wb hwb
  have hbb : Below wa.heap.size wa wb := by rw [hwb]; exact (by repeat (first | (with_reducible exact Below.refl _ wa) | (with_reducible refine bdrewN ?_ _) | (with_reducible refine Below.drew ?_) | (with_reducible refine Below.setCell ?_ (by first | omega | (simp; done) | (simp; omega)) _) | (with_reducible refine Below.alloc ?_ (by first | omega | (simp; done) | (simp; omega)) _)))
  replace k6 := k6.at hbb
  replace kX := kX.at hbb
  replace hl := Rd.at hl hbb
  replace hi := Rd.at hi hbb
  have HBb := hid (HBa.out.trans (hbb.mono HBa.out.size) : Below w.heap.size w wb)
  clear hwb hbb HBa
  (refine wp_abs ?_; intro s' hs'; have gl2 := congrFun hs' 2; simp only [updS_some, updS_none, Nat.reduceEqDiff, ↓reduceIte] at gl2; (try rw [sl2] at gl2); have gl4 := congrFun hs' 4; simp only [updS_some, updS_none, Nat.reduceEqDiff, ↓reduceIte] at gl4; (try rw [sl4] at gl4); have gl5 := congrFun hs' 5; simp only [updS_some, updS_none, Nat.reduceEqDiff, ↓reduceIte] at gl5; (try rw [sl5] at gl5); have gl6 := congrFun hs' 6; simp only [updS_some, updS_none, Nat.reduceEqDiff, ↓reduceIte] at gl6; (try rw [sl6] at gl6); have gl7 := congrFun hs' 7; simp only [updS_some, updS_none, Nat.reduceEqDiff, ↓reduceIte] at gl7; (try rw [sl7] at gl7); have gl8 := congrFun hs' 8; simp only [updS_some, updS_none, Nat.reduceEqDiff, ↓reduceIte] at gl8; (try rw [sl8] at gl8); have gl9 := congrFun hs' 9; simp only [updS_some, updS_none, Nat.reduceEqDiff, ↓reduceIte] at gl9; (try rw [sl9] at gl9); have gl10 := congrFun hs' 10; simp only [updS_some, updS_none, Nat.reduceEqDiff, ↓reduceIte] at gl10; (try rw [sl10] at gl10); have gl11 := congrFun hs' 11; simp only [updS_some, updS_none, Nat.reduceEqDiff, ↓reduceIte] at gl11; (try rw [sl11] at gl11); have gl12 := congrFun hs' 12; simp only [updS_some, updS_none, Nat.reduceEqDiff, ↓reduceIte] at gl12; (try rw [sl12] at gl12); have gl14 := congrFun hs' 14; simp only [updS_some, updS_none, Nat.reduceEqDiff, ↓reduceIte] at gl14; (try rw [sl14] at gl14); have gl17 := congrFun hs' 17; simp only [updS_some, updS_none, Nat.reduceEqDiff, ↓reduceIte] at gl17; (try rw [sl17] at gl17); clear hs'; (try clear sl2); (try clear sl4); (try clear sl5); (try clear sl6); (try clear sl7); (try clear sl8); (try clear sl9); (try clear sl10); (try clear sl11); (try clear sl12); (try clear sl14); (try clear sl17); have sl2 := gl2; clear gl2; have sl4 := gl4; clear gl4; have sl5 := gl5; clear gl5; have sl6 := gl6; clear gl6; have sl7 := gl7; clear gl7; have sl8 := gl8; clear gl8; have sl9 := gl9; clear gl9; have sl10 := gl10; clear gl10; have sl11 := gl11; clear gl11; have sl12 := gl12; clear gl12; have sl14 := gl14; clear gl14; have sl17 := gl17; clear gl17)
  have q6 := k6.1
  have qX := kX.1
  have c0 := k6.cell 0 rfl
  have c1 := k6.cell 1 rfl
  have c2 := k6.cell 2 rfl
  have c3 := k6.cell 3 rfl
  have d0 := kX.cell 0 rfl
  have d1 := kX.cell 1 rfl
  have d2 := kX.cell 2 rfl
  have d3 := kX.cell 3 rfl
  clear k6 kX
  refine regionR_F [] [] [32, 52] [.q [], .q [], .q [], .q [], .q [], .q [], .q [], .q [], .q [], .q [], .q [], .q [], .q [], .q [], .q [], .q [], .q [], .q [], .q [], .q [], .q [], .q [], .q [], .q [], .q [], .q [], .q [], .q [], .q [], .q [], .q [], .q [], .a, .q [32], .q [], .q [], .q [], .q [], .q [], .q [], .q [], .q [], .q [], .q [], .q [], .q [], .q [], .q [], .q [], .q [], .q [], .q [], .a, .q [52], .q [], .q []] [?v1_0, ?v1_1, ?v1_2, ?v1_3, ?v1_4, ?v1_5, ?v1_6, ?v1_7, ?v1_8, ?v1_9, ?v1_10, ?v1_11, ?v1_12, ?v1_13, ?v1_14, ?v1_15, ?v1_16, ?v1_17, ?v1_18, ?v1_19, ?v1_20, ?v1_21, ?v1_22, ?v1_23, ?v1_24, ?v1_25, ?v1_26, ?v1_27, ?v1_28, ?v1_29, ?v1_30, ?v1_31, ?v1_32, ?v1_33, ?v1_34, ?v1_35, ?v1_36, ?v1_37, ?v1_38, ?v1_39, ?v1_40, ?v1_41, ?v1_42, ?v1_43, ?v1_44, ?v1_45, ?v1_46, ?v1_47, ?v1_48, ?v1_49, ?v1_50, ?v1_51, ?v1_52, ?v1_53, ?v1_54, ?v1_55] [fun _ => [], fun _ => [], fun _ => [], fun _ => [], fun _ => [], fun _ => [], fun _ => [], fun _ => [], fun _ => [], fun _ => [], fun _ => [], fun _ => [], fun _ => [], fun _ => [], fun _ => [], fun _ => [], fun _ => [], fun _ => [], fun _ => [], fun _ => [], fun _ => [], fun _ => [], fun _ => [], fun _ => [], fun _ => [], fun _ => [], fun _ => [], fun _ => [], fun _ => [], fun _ => [], fun _ => [], fun _ => [], ?c1_32, fun _ => [], fun _ => [], fun _ => [], fun _ => [], fun _ => [], fun _ => [], fun _ => [], fun _ => [], fun _ => [], fun _ => [], fun _ => [], fun _ => [], fun _ => [], fun _ => [], fun _ => [], fun _ => [], fun _ => [], fun _ => [], fun _ => [], ?c1_52, fun _ => [], fun _ => [], fun _ => []] (by kernel_rfl) (by kernel_rfl) (by kernel_rfl) (by kernel_rfl) (by kernel_rfl) (by first | exact List.nodup_nil | exact List.nodup_singleton _ | (simp; done) | (simp; omega)) bc_nil ?walk1 ?dep1
  case' walk1 =>
    refine walkR_q (by rfl) (fun X hX wq hwq hrq => ?_) ?_
    · obtain ⟨hcq, hfq⟩ := hwq.b0
      clear hrq
      go_simp
      (first | rfl | exact ⟨rfl, rfl⟩ | (first | (go_at_call 35; exact spell_any _ _ _ _ _) | (go_at_call 29; exact exInts_c hi hwq kq32) | (go_at_call 26; exact exSpells_c hl hwq kq52)))
    refine walkR_q (by rfl) (fun X hX wq hwq hrq => ?_) ?_
    · obtain ⟨hcq, hfq⟩ := hwq.b0
      clear hrq
      go_simp
      (first | rfl | exact ⟨rfl, rfl⟩ | (first | (go_at_call 35; exact spell_any _ _ _ _ _) | (go_at_call 29; exact exInts_c hi hwq kq32) | (go_at_call 26; exact exSpells_c hl hwq kq52)))
    refine walkR_q (by rfl) (fun X hX wq hwq hrq => ?_) ?_
    · obtain ⟨hcq, hfq⟩ := hwq.b0
      clear hrq
      go_simp
      (first | rfl | exact ⟨rfl, rfl⟩ | (first | (go_at_call 35; exact spell_any _ _ _ _ _) | (go_at_call 29; exact exInts_c hi hwq kq32) | (go_at_call 26; exact exSpells_c hl hwq kq52)))
    refine walkR_qg (by rfl) (by rfl) (by decide) (fun X hX => ?_) (fun X hX wq hwq hrq => ?_) ?_
    · go_simp
    · obtain ⟨hcq, hfq⟩ := hwq.b0
      clear hrq
      go_simp
      (first | rfl | exact ⟨rfl, rfl⟩ | (first | (go_at_call 35; exact spell_any _ _ _ _ _) | (go_at_call 29; exact exInts_c hi hwq kq32) | (go_at_call 26; exact exSpells_c hl hwq kq52)))
    refine walkR_qg (by rfl) (by rfl) (by decide) (fun X hX => ?_) (fun X hX wq hwq hrq => ?_) ?_
    · go_simp
    · obtain ⟨hcq, hfq⟩ := hwq.b0
      clear hrq
      go_simp
      (first | rfl | exact ⟨rfl, rfl⟩ | (first | (go_at_call 35; exact spell_any _ _ _ _ _) | (go_at_call 29; exact exInts_c hi hwq kq32) | (go_at_call 26; exact exSpells_c hl hwq kq52)))
    refine walkR_q (by rfl) (fun X hX wq hwq hrq => ?_) ?_
    · obtain ⟨hcq, hfq⟩ := hwq.b0
      clear hrq
      go_simp
      (first | rfl | exact ⟨rfl, rfl⟩ | (first | (go_at_call 35; exact spell_any _ _ _ _ _) | (go_at_call 29; exact exInts_c hi hwq kq32) | (go_at_call 26; exact exSpells_c hl hwq kq52)))
    refine walkR_q (by rfl) (fun X hX wq hwq hrq => ?_) ?_
    · obtain ⟨hcq, hfq⟩ := hwq.b0
      clear hrq
      go_simp
      (first | rfl | exact ⟨rfl, rfl⟩ | (first | (go_at_call 35; exact spell_any _ _ _ _ _) | (go_at_call 29; exact exInts_c hi hwq kq32) | (go_at_call 26; exact exSpells_c hl hwq kq52)))
    refine walkR_qg (by rfl) (by rfl) (by decide) (fun X hX => ?_) (fun X hX wq hwq hrq => ?_) ?_
    · go_simp
    · obtain ⟨hcq, hfq⟩ := hwq.b0
      clear hrq
      go_simp
      (first | rfl | exact ⟨rfl, rfl⟩ | (first | (go_at_call 35; exact spell_any _ _ _ _ _) | (go_at_call 29; exact exInts_c hi hwq kq32) | (go_at_call 26; exact exSpells_c hl hwq kq52)))
    refine walkR_qg (by rfl) (by rfl) (by decide) (fun X hX => ?_) (fun X hX wq hwq hrq => ?_) ?_
    · go_simp
    · obtain ⟨hcq, hfq⟩ := hwq.b0
      clear hrq
      go_simp
      (first | rfl | exact ⟨rfl, rfl⟩ | (first | (go_at_call 35; exact spell_any _ _ _ _ _) | (go_at_call 29; exact exInts_c hi hwq kq32) | (go_at_call 26; exact exSpells_c hl hwq kq52)))
    refine walkR_q (by rfl) (fun X hX wq hwq hrq => ?_) ?_
    · obtain ⟨hcq, hfq⟩ := hwq.b0
      clear hrq
      go_simp
      (first | rfl | exact ⟨rfl, rfl⟩ | (first | (go_at_call 35; exact spell_any _ _ _ _ _) | (go_at_call 29; exact exInts_c hi hwq kq32) | (go_at_call 26; exact exSpells_c hl hwq kq52)))
    refine walkR_q (by rfl) (fun X hX wq hwq hrq => ?_) ?_
    · obtain ⟨hcq, hfq⟩ := hwq.b0
      clear hrq
      go_simp
      (first | rfl | exact ⟨rfl, rfl⟩ | (first | (go_at_call 35; exact spell_any _ _ _ _ _) | (go_at_call 29; exact exInts_c hi hwq kq32) | (go_at_call 26; exact exSpells_c hl hwq kq52)))
    refine walkR_qg (by rfl) (by rfl) (by decide) (fun X hX => ?_) (fun X hX wq hwq hrq => ?_) ?_
    · go_simp
    · obtain ⟨hcq, hfq⟩ := hwq.b0
      clear hrq
      go_simp
      (first | rfl | exact ⟨rfl, rfl⟩ | (first | (go_at_call 35; exact spell_any _ _ _ _ _) | (go_at_call 29; exact exInts_c hi hwq kq32) | (go_at_call 26; exact exSpells_c hl hwq kq52)))
    refine walkR_qg (by rfl) (by rfl) (by decide) (fun X hX => ?_) (fun X hX wq hwq hrq => ?_) ?_
    · go_simp
    · obtain ⟨hcq, hfq⟩ := hwq.b0
      clear hrq
      go_simp
      (first | rfl | exact ⟨rfl, rfl⟩ | (first | (go_at_call 35; exact spell_any _ _ _ _ _) | (go_at_call 29; exact exInts_c hi hwq kq32) | (go_at_call 26; exact exSpells_c hl hwq kq52)))
    refine walkR_q (by rfl) (fun X hX wq hwq hrq => ?_) ?_
    · obtain ⟨hcq, hfq⟩ := hwq.b0
      clear hrq
      go_simp
      (first | rfl | exact ⟨rfl, rfl⟩ | (first | (go_at_call 35; exact spell_any _ _ _ _ _) | (go_at_call 29; exact exInts_c hi hwq kq32) | (go_at_call 26; exact exSpells_c hl hwq kq52)))
    refine walkR_q (by rfl) (fun X hX wq hwq hrq => ?_) ?_
    · obtain ⟨hcq, hfq⟩ := hwq.b0
      clear hrq
      go_simp
      (first | rfl | exact ⟨rfl, rfl⟩ | (first | (go_at_call 35; exact spell_any _ _ _ _ _) | (go_at_call 29; exact exInts_c hi hwq kq32) | (go_at_call 26; exact exSpells_c hl hwq kq52)))
    refine walkR_qg (by rfl) (by rfl) (by decide) (fun X hX => ?_) (fun X hX wq hwq hrq => ?_) ?_
    · go_simp
    · obtain ⟨hcq, hfq⟩ := hwq.b0
      clear hrq
      go_simp
      (first | rfl | exact ⟨rfl, rfl⟩ | (first | (go_at_call 35; exact spell_any _ _ _ _ _) | (go_at_call 29; exact exInts_c hi hwq kq32) | (go_at_call 26; exact exSpells_c hl hwq kq52)))
    refine walkR_qg (by rfl) (by rfl) (by decide) (fun X hX => ?_) (fun X hX wq hwq hrq => ?_) ?_
    · go_simp
    · obtain ⟨hcq, hfq⟩ := hwq.b0
      clear hrq
      go_simp
      (first | rfl | exact ⟨rfl, rfl⟩ | (first | (go_at_call 35; exact spell_any _ _ _ _ _) | (go_at_call 29; exact exInts_c hi hwq kq32) | (go_at_call 26; exact exSpells_c hl hwq kq52)))
    refine walkR_q (by rfl) (fun X hX wq hwq hrq => ?_) ?_
    · obtain ⟨hcq, hfq⟩ := hwq.b0
      clear hrq
      go_simp
      (first | rfl | exact ⟨rfl, rfl⟩ | (first | (go_at_call 35; exact spell_any _ _ _ _ _) | (go_at_call 29; exact exInts_c hi hwq kq32) | (go_at_call 26; exact exSpells_c hl hwq kq52)))
    refine walkR_q (by rfl) (fun X hX wq hwq hrq => ?_) ?_
    · obtain ⟨hcq, hfq⟩ := hwq.b0
      clear hrq
      go_simp
      (first | rfl | exact ⟨rfl, rfl⟩ | (first | (go_at_call 35; exact spell_any _ _ _ _ _) | (go_at_call 29; exact exInts_c hi hwq kq32) | (go_at_call 26; exact exSpells_c hl hwq kq52)))
    refine walkR_qg (by rfl) (by rfl) (by decide) (fun X hX => ?_) (fun X hX wq hwq hrq => ?_) ?_
    · go_simp
    · obtain ⟨hcq, hfq⟩ := hwq.b0
      clear hrq
      go_simp
      (first | rfl | exact ⟨rfl, rfl⟩ | (first | (go_at_call 35; exact spell_any _ _ _ _ _) | (go_at_call 29; exact exInts_c hi hwq kq32) | (go_at_call 26; exact exSpells_c hl hwq kq52)))
    refine walkR_qg (by rfl) (by rfl) (by decide) (fun X hX => ?_) (fun X hX wq hwq hrq => ?_) ?_
    · go_simp
    · obtain ⟨hcq, hfq⟩ := hwq.b0
      clear hrq
      go_simp
      (first | rfl | exact ⟨rfl, rfl⟩ | (first | (go_at_call 35; exact spell_any _ _ _ _ _) | (go_at_call 29; exact exInts_c hi hwq kq32) | (go_at_call 26; exact exSpells_c hl hwq kq52)))
    refine walkR_q (by rfl) (fun X hX wq hwq hrq => ?_) ?_
    · obtain ⟨hcq, hfq⟩ := hwq.b0
      clear hrq
      go_simp
      (first | rfl | exact ⟨rfl, rfl⟩ | (first | (go_at_call 35; exact spell_any _ _ _ _ _) | (go_at_call 29; exact exInts_c hi hwq kq32) | (go_at_call 26; exact exSpells_c hl hwq kq52)))
    refine walkR_q (by rfl) (fun X hX wq hwq hrq => ?_) ?_
    · obtain ⟨hcq, hfq⟩ := hwq.b0
      clear hrq
      go_simp
      (first | rfl | exact ⟨rfl, rfl⟩ | (first | (go_at_call 35; exact spell_any _ _ _ _ _) | (go_at_call 29; exact exInts_c hi hwq kq32) | (go_at_call 26; exact exSpells_c hl hwq kq52)))
    refine walkR_qg (by rfl) (by rfl) (by decide) (fun X hX => ?_) (fun X hX wq hwq hrq => ?_) ?_
    · go_simp
    · obtain ⟨hcq, hfq⟩ := hwq.b0
      clear hrq
      go_simp
      (first | rfl | exact ⟨rfl, rfl⟩ | (first | (go_at_call 35; exact spell_any _ _ _ _ _) | (go_at_call 29; exact exInts_c hi hwq kq32) | (go_at_call 26; exact exSpells_c hl hwq kq52)))
    refine walkR_qg (by rfl) (by rfl) (by decide) (fun X hX => ?_) (fun X hX wq hwq hrq => ?_) ?_
    · go_simp
    · obtain ⟨hcq, hfq⟩ := hwq.b0
      clear hrq
      go_simp
      (first | rfl | exact ⟨rfl, rfl⟩ | (first | (go_at_call 35; exact spell_any _ _ _ _ _) | (go_at_call 29; exact exInts_c hi hwq kq32) | (go_at_call 26; exact exSpells_c hl hwq kq52)))
    refine walkR_q (by rfl) (fun X hX wq hwq hrq => ?_) ?_
    · obtain ⟨hcq, hfq⟩ := hwq.b0
      clear hrq
      go_simp
      (first | rfl | exact ⟨rfl, rfl⟩ | (first | (go_at_call 35; exact spell_any _ _ _ _ _) | (go_at_call 29; exact exInts_c hi hwq kq32) | (go_at_call 26; exact exSpells_c hl hwq kq52)))
    refine walkR_q (by rfl) (fun X hX wq hwq hrq => ?_) ?_
    · obtain ⟨hcq, hfq⟩ := hwq.b0
      clear hrq
      go_simp
      (first | rfl | exact ⟨rfl, rfl⟩ | (first | (go_at_call 35; exact spell_any _ _ _ _ _) | (go_at_call 29; exact exInts_c hi hwq kq32) | (go_at_call 26; exact exSpells_c hl hwq kq52)))
    refine walkR_qg (by rfl) (by rfl) (by decide) (fun X hX => ?_) (fun X hX wq hwq hrq => ?_) ?_
    · go_simp
    · obtain ⟨hcq, hfq⟩ := hwq.b0
      clear hrq
      go_simp
      (first | rfl | exact ⟨rfl, rfl⟩ | (first | (go_at_call 35; exact spell_any _ _ _ _ _) | (go_at_call 29; exact exInts_c hi hwq kq32) | (go_at_call 26; exact exSpells_c hl hwq kq52)))
    refine walkR_qg (by rfl) (by rfl) (by decide) (fun X hX => ?_) (fun X hX wq hwq hrq => ?_) ?_
    · go_simp
    · obtain ⟨hcq, hfq⟩ := hwq.b0
      clear hrq
      go_simp
      (first | rfl | exact ⟨rfl, rfl⟩ | (first | (go_at_call 35; exact spell_any _ _ _ _ _) | (go_at_call 29; exact exInts_c hi hwq kq32) | (go_at_call 26; exact exSpells_c hl hwq kq52)))
    refine walkR_q (by rfl) (fun X hX wq hwq hrq => ?_) ?_
    · obtain ⟨hcq, hfq⟩ := hwq.b0
      clear hrq
      go_simp
      (first | rfl | exact ⟨rfl, rfl⟩ | (first | (go_at_call 35; exact spell_any _ _ _ _ _) | (go_at_call 29; exact exInts_c hi hwq kq32) | (go_at_call 26; exact exSpells_c hl hwq kq52)))
    refine walkR_q (by rfl) (fun X hX wq hwq hrq => ?_) ?_
    · obtain ⟨hcq, hfq⟩ := hwq.b0
      clear hrq
      go_simp
      (first | rfl | exact ⟨rfl, rfl⟩ | (first | (go_at_call 35; exact spell_any _ _ _ _ _) | (go_at_call 29; exact exInts_c hi hwq kq32) | (go_at_call 26; exact exSpells_c hl hwq kq52)))
    refine walkR_qg (by rfl) (by rfl) (by decide) (fun X hX => ?_) (fun X hX wq hwq hrq => ?_) ?_
    · go_simp
    · obtain ⟨hcq, hfq⟩ := hwq.b0
      clear hrq
      go_simp
      (first | rfl | exact ⟨rfl, rfl⟩ | (first | (go_at_call 35; exact spell_any _ _ _ _ _) | (go_at_call 29; exact exInts_c hi hwq kq32) | (go_at_call 26; exact exSpells_c hl hwq kq52)))
    refine walkR_ag (by rfl) (by rfl) (by decide) (fun X hX => ?_) (fun X hX wq hwq hsq => ?_) ?_
    · go_simp
    · go_simp
      refine newB_mk ?_ ?_
      · rfl
      · rfl
    refine walkR_qg (by rfl) (by rfl) (by decide) (fun X hX => ?_) (fun X hX wq hwq hrq => ?_) ?_
    · go_simp
    · obtain ⟨hcq, hfq⟩ := hwq.b0
      have kq32 := hrq 32 (by simp)
      simp only [updC_some, updC_none, Nat.reduceEqDiff, ↓reduceIte] at kq32
      have kqs32 := kq32.1
      clear hrq
      go_simp
      (first | rfl | exact ⟨rfl, rfl⟩ | (first | (go_at_call 35; exact spell_any _ _ _ _ _) | (go_at_call 29; exact exInts_c hi hwq kq32) | (go_at_call 26; exact exSpells_c hl hwq kq52)))
    refine walkR_q (by rfl) (fun X hX wq hwq hrq => ?_) ?_
    · obtain ⟨hcq, hfq⟩ := hwq.b0
      clear hrq
      go_simp
      (first | rfl | exact ⟨rfl, rfl⟩ | (first | (go_at_call 35; exact spell_any _ _ _ _ _) | (go_at_call 29; exact exInts_c hi hwq kq32) | (go_at_call 26; exact exSpells_c hl hwq kq52)))
    refine walkR_q (by rfl) (fun X hX wq hwq hrq => ?_) ?_
    · obtain ⟨hcq, hfq⟩ := hwq.b0
      clear hrq
      go_simp
      (first | rfl | exact ⟨rfl, rfl⟩ | (first | (go_at_call 35; exact spell_any _ _ _ _ _) | (go_at_call 29; exact exInts_c hi hwq kq32) | (go_at_call 26; exact exSpells_c hl hwq kq52)))
    refine walkR_qg (by rfl) (by rfl) (by decide) (fun X hX => ?_) (fun X hX wq hwq hrq => ?_) ?_
    · go_simp
    · obtain ⟨hcq, hfq⟩ := hwq.b0
      clear hrq
      go_simp
      (first | rfl | exact ⟨rfl, rfl⟩ | (first | (go_at_call 35; exact spell_any _ _ _ _ _) | (go_at_call 29; exact exInts_c hi hwq kq32) | (go_at_call 26; exact exSpells_c hl hwq kq52)))
    refine walkR_qg (by rfl) (by rfl) (by decide) (fun X hX => ?_) (fun X hX wq hwq hrq => ?_) ?_
    · go_simp
    · obtain ⟨hcq, hfq⟩ := hwq.b0
      clear hrq
      go_simp
      (first | rfl | exact ⟨rfl, rfl⟩ | (first | (go_at_call 35; exact spell_any _ _ _ _ _) | (go_at_call 29; exact exInts_c hi hwq kq32) | (go_at_call 26; exact exSpells_c hl hwq kq52)))
    refine walkR_qg (by rfl) (by rfl) (by decide) (fun X hX => ?_) (fun X hX wq hwq hrq => ?_) ?_
    · go_simp
    · obtain ⟨hcq, hfq⟩ := hwq.b0
      clear hrq
      go_simp
      (first | rfl | exact ⟨rfl, rfl⟩ | (first | (go_at_call 35; exact spell_any _ _ _ _ _) | (go_at_call 29; exact exInts_c hi hwq kq32) | (go_at_call 26; exact exSpells_c hl hwq kq52)))
    refine walkR_q (by rfl) (fun X hX wq hwq hrq => ?_) ?_
    · obtain ⟨hcq, hfq⟩ := hwq.b0
      clear hrq
      go_simp
      (first | rfl | exact ⟨rfl, rfl⟩ | (first | (go_at_call 35; exact spell_any _ _ _ _ _) | (go_at_call 29; exact exInts_c hi hwq kq32) | (go_at_call 26; exact exSpells_c hl hwq kq52)))
    refine walkR_q (by rfl) (fun X hX wq hwq hrq => ?_) ?_
    · obtain ⟨hcq, hfq⟩ := hwq.b0
      clear hrq
      go_simp
      (first | rfl | exact ⟨rfl, rfl⟩ | (first | (go_at_call 35; exact spell_any _ _ _ _ _) | (go_at_call 29; exact exInts_c hi hwq kq32) | (go_at_call 26; exact exSpells_c hl hwq kq52)))
    refine walkR_qg (by rfl) (by rfl) (by decide) (fun X hX => ?_) (fun X hX wq hwq hrq => ?_) ?_
    · go_simp
    · obtain ⟨hcq, hfq⟩ := hwq.b0
      clear hrq
      go_simp
      (first | rfl | exact ⟨rfl, rfl⟩ | (first | (go_at_call 35; exact spell_any _ _ _ _ _) | (go_at_call 29; exact exInts_c hi hwq kq32) | (go_at_call 26; exact exSpells_c hl hwq kq52)))
    refine walkR_qg (by rfl) (by rfl) (by decide) (fun X hX => ?_) (fun X hX wq hwq hrq => ?_) ?_
    · go_simp
    · obtain ⟨hcq, hfq⟩ := hwq.b0
      clear hrq
      go_simp
      (first | rfl | exact ⟨rfl, rfl⟩ | (first | (go_at_call 35; exact spell_any _ _ _ _ _) | (go_at_call 29; exact exInts_c hi hwq kq32) | (go_at_call 26; exact exSpells_c hl hwq kq52)))
    refine walkR_qg (by rfl) (by rfl) (by decide) (fun X hX => ?_) (fun X hX wq hwq hrq => ?_) ?_
    · go_simp
    · obtain ⟨hcq, hfq⟩ := hwq.b0
      clear hrq
      go_simp
      (first | rfl | exact ⟨rfl, rfl⟩ | (first | (go_at_call 35; exact spell_any _ _ _ _ _) | (go_at_call 29; exact exInts_c hi hwq kq32) | (go_at_call 26; exact exSpells_c hl hwq kq52)))
    refine walkR_q (by rfl) (fun X hX wq hwq hrq => ?_) ?_
    · obtain ⟨hcq, hfq⟩ := hwq.b0
      clear hrq
      go_simp
      (first | rfl | exact ⟨rfl, rfl⟩ | (first | (go_at_call 35; exact spell_any _ _ _ _ _) | (go_at_call 29; exact exInts_c hi hwq kq32) | (go_at_call 26; exact exSpells_c hl hwq kq52)))
    refine walkR_q (by rfl) (fun X hX wq hwq hrq => ?_) ?_
    · obtain ⟨hcq, hfq⟩ := hwq.b0
      clear hrq
      go_simp
      (first | rfl | exact ⟨rfl, rfl⟩ | (first | (go_at_call 35; exact spell_any _ _ _ _ _) | (go_at_call 29; exact exInts_c hi hwq kq32) | (go_at_call 26; exact exSpells_c hl hwq kq52)))
    refine walkR_qg (by rfl) (by rfl) (by decide) (fun X hX => ?_) (fun X hX wq hwq hrq => ?_) ?_
    · go_simp
    · obtain ⟨hcq, hfq⟩ := hwq.b0
      clear hrq
      go_simp
      (first | rfl | exact ⟨rfl, rfl⟩ | (first | (go_at_call 35; exact spell_any _ _ _ _ _) | (go_at_call 29; exact exInts_c hi hwq kq32) | (go_at_call 26; exact exSpells_c hl hwq kq52)))
    refine walkR_qg (by rfl) (by rfl) (by decide) (fun X hX => ?_) (fun X hX wq hwq hrq => ?_) ?_
    · go_simp
    · obtain ⟨hcq, hfq⟩ := hwq.b0
      clear hrq
      go_simp
      (first | rfl | exact ⟨rfl, rfl⟩ | (first | (go_at_call 35; exact spell_any _ _ _ _ _) | (go_at_call 29; exact exInts_c hi hwq kq32) | (go_at_call 26; exact exSpells_c hl hwq kq52)))
    refine walkR_qg (by rfl) (by rfl) (by decide) (fun X hX => ?_) (fun X hX wq hwq hrq => ?_) ?_
    · go_simp
    · obtain ⟨hcq, hfq⟩ := hwq.b0
      clear hrq
      go_simp
      (first | rfl | exact ⟨rfl, rfl⟩ | (first | (go_at_call 35; exact spell_any _ _ _ _ _) | (go_at_call 29; exact exInts_c hi hwq kq32) | (go_at_call 26; exact exSpells_c hl hwq kq52)))
    refine walkR_qg (by rfl) (by rfl) (by decide) (fun X hX => ?_) (fun X hX wq hwq hrq => ?_) ?_
    · go_simp
    · obtain ⟨hcq, hfq⟩ := hwq.b0
      clear hrq
      go_simp
      (first | rfl | exact ⟨rfl, rfl⟩ | (first | (go_at_call 35; exact spell_any _ _ _ _ _) | (go_at_call 29; exact exInts_c hi hwq kq32) | (go_at_call 26; exact exSpells_c hl hwq kq52)))
    refine walkR_qg (by rfl) (by rfl) (by decide) (fun X hX => ?_) (fun X hX wq hwq hrq => ?_) ?_
    · go_simp
    · obtain ⟨hcq, hfq⟩ := hwq.b0
      clear hrq
      go_simp
      (first | rfl | exact ⟨rfl, rfl⟩ | (first | (go_at_call 35; exact spell_any _ _ _ _ _) | (go_at_call 29; exact exInts_c hi hwq kq32) | (go_at_call 26; exact exSpells_c hl hwq kq52)))
    refine walkR_qg (by rfl) (by rfl) (by decide) (fun X hX => ?_) (fun X hX wq hwq hrq => ?_) ?_
    · go_simp
    · obtain ⟨hcq, hfq⟩ := hwq.b0
      clear hrq
      go_simp
      (first | rfl | exact ⟨rfl, rfl⟩ | (first | (go_at_call 35; exact spell_any _ _ _ _ _) | (go_at_call 29; exact exInts_c hi hwq kq32) | (go_at_call 26; exact exSpells_c hl hwq kq52)))
    refine walkR_ag (by rfl) (by rfl) (by decide) (fun X hX => ?_) (fun X hX wq hwq hsq => ?_) ?_
    · go_simp
    · go_simp
      refine newB_mk ?_ ?_
      · rfl
      · rfl
    refine walkR_qg (by rfl) (by rfl) (by decide) (fun X hX => ?_) (fun X hX wq hwq hrq => ?_) ?_
    · go_simp
    · obtain ⟨hcq, hfq⟩ := hwq.b0
      have kq52 := hrq 52 (by simp)
      simp only [updC_some, updC_none, Nat.reduceEqDiff, ↓reduceIte] at kq52
      have kqs52 := kq52.1
      clear hrq
      go_simp
      (first | rfl | exact ⟨rfl, rfl⟩ | (first | (go_at_call 35; exact spell_any _ _ _ _ _) | (go_at_call 29; exact exInts_c hi hwq kq32) | (go_at_call 26; exact exSpells_c hl hwq kq52)))
    refine walkR_q (by rfl) (fun X hX wq hwq hrq => ?_) ?_
    · obtain ⟨hcq, hfq⟩ := hwq.b0
      clear hrq
      go_simp
      (first | rfl | exact ⟨rfl, rfl⟩ | (first | (go_at_call 35; exact spell_any _ _ _ _ _) | (go_at_call 29; exact exInts_c hi hwq kq32) | (go_at_call 26; exact exSpells_c hl hwq kq52)))
    refine walkR_q (by rfl) (fun X hX wq hwq hrq => ?_) ?_
    · obtain ⟨hcq, hfq⟩ := hwq.b0
      clear hrq
      go_simp
      (first | rfl | exact ⟨rfl, rfl⟩ | (first | (go_at_call 35; exact spell_any _ _ _ _ _) | (go_at_call 29; exact exInts_c hi hwq kq32) | (go_at_call 26; exact exSpells_c hl hwq kq52)))
    refine walkR_nil (fun X hX wz hwz hcz => ?_)
    have ka32 := hcz 32 (by simp)
    simp only [updC_some, updC_none, Nat.reduceEqDiff, ↓reduceIte] at ka32
    have la32 := hX.lo 32 rfl
    have ln32_52 := hX.ne 32 52 rfl rfl (by decide)
    have ka52 := hcz 52 (by simp)
    simp only [updC_some, updC_none, Nat.reduceEqDiff, ↓reduceIte] at ka52
    have la52 := hX.lo 52 rfl
    clear hX hcz
    generalize X 32 = J32 at *
    generalize X 52 = J52 at *
    (try clear X)
  case dep1 =>
    refine depR_cons (fun X X' h => ?_) ?_
    · (first | exact ⟨rfl, rfl⟩)
    refine depR_cons (fun X X' h => ?_) ?_
    · (first | exact ⟨rfl, rfl⟩)
    refine depR_cons (fun X X' h => ?_) ?_
    · (first | exact ⟨rfl, rfl⟩)
    refine depR_cons (fun X X' h => ?_) ?_
    · (first | exact ⟨rfl, rfl⟩)
    refine depR_cons (fun X X' h => ?_) ?_
    · (first | exact ⟨rfl, rfl⟩)
    refine depR_cons (fun X X' h => ?_) ?_
    · (first | exact ⟨rfl, rfl⟩)
    refine depR_cons (fun X X' h => ?_) ?_
    · (first | exact ⟨rfl, rfl⟩)
    refine depR_cons (fun X X' h => ?_) ?_
    · (first | exact ⟨rfl, rfl⟩)
    refine depR_cons (fun X X' h => ?_) ?_
    · (first | exact ⟨rfl, rfl⟩)
    refine depR_cons (fun X X' h => ?_) ?_
    · (first | exact ⟨rfl, rfl⟩)
    refine depR_cons (fun X X' h => ?_) ?_
    · (first | exact ⟨rfl, rfl⟩)
    refine depR_cons (fun X X' h => ?_) ?_
    · (first | exact ⟨rfl, rfl⟩)
    refine depR_cons (fun X X' h => ?_) ?_
    · (first | exact ⟨rfl, rfl⟩)
    refine depR_cons (fun X X' h => ?_) ?_
    · (first | exact ⟨rfl, rfl⟩)
    refine depR_cons (fun X X' h => ?_) ?_
    · (first | exact ⟨rfl, rfl⟩)
    refine depR_cons (fun X X' h => ?_) ?_
    · (first | exact ⟨rfl, rfl⟩)
    refine depR_cons (fun X X' h => ?_) ?_
    · (first | exact ⟨rfl, rfl⟩)
    refine depR_cons (fun X X' h => ?_) ?_
    · (first | exact ⟨rfl, rfl⟩)
    refine depR_cons (fun X X' h => ?_) ?_
    · (first | exact ⟨rfl, rfl⟩)
    refine depR_cons (fun X X' h => ?_) ?_
    · (first | exact ⟨rfl, rfl⟩)
    refine depR_cons (fun X X' h => ?_) ?_
    · (first | exact ⟨rfl, rfl⟩)
    refine depR_cons (fun X X' h => ?_) ?_
    · (first | exact ⟨rfl, rfl⟩)
    refine depR_cons (fun X X' h => ?_) ?_
    · (first | exact ⟨rfl, rfl⟩)
    refine depR_cons (fun X X' h => ?_) ?_
    · (first | exact ⟨rfl, rfl⟩)
    refine depR_cons (fun X X' h => ?_) ?_
    · (first | exact ⟨rfl, rfl⟩)
    refine depR_cons (fun X X' h => ?_) ?_
    · (first | exact ⟨rfl, rfl⟩)
    refine depR_cons (fun X X' h => ?_) ?_
    · (first | exact ⟨rfl, rfl⟩)
    refine depR_cons (fun X X' h => ?_) ?_
    · (first | exact ⟨rfl, rfl⟩)
    refine depR_cons (fun X X' h => ?_) ?_
    · (first | exact ⟨rfl, rfl⟩)
    refine depR_cons (fun X X' h => ?_) ?_
    · (first | exact ⟨rfl, rfl⟩)
    refine depR_cons (fun X X' h => ?_) ?_
    · (first | exact ⟨rfl, rfl⟩)
    refine depR_cons (fun X X' h => ?_) ?_
    · (first | exact ⟨rfl, rfl⟩)
    refine depR_cons (fun X X' h => ?_) ?_
    · (first | exact ⟨rfl, rfl⟩ | (have e32 := h 32 (by decide +kernel); constructor <;> (first | rfl | (simp only [e32]))))
    refine depR_cons (fun X X' h => ?_) ?_
    · (first | exact ⟨rfl, rfl⟩ | (have e32 := h 32 (by decide +kernel); constructor <;> (first | rfl | (simp only [e32]))))
    refine depR_cons (fun X X' h => ?_) ?_
    · (first | exact ⟨rfl, rfl⟩ | (have e32 := h 32 (by decide +kernel); constructor <;> (first | rfl | (simp only [e32]))))
    refine depR_cons (fun X X' h => ?_) ?_
    · (first | exact ⟨rfl, rfl⟩ | (have e32 := h 32 (by decide +kernel); constructor <;> (first | rfl | (simp only [e32]))))
    refine depR_cons (fun X X' h => ?_) ?_
    · (first | exact ⟨rfl, rfl⟩ | (have e32 := h 32 (by decide +kernel); constructor <;> (first | rfl | (simp only [e32]))))
    refine depR_cons (fun X X' h => ?_) ?_
    · (first | exact ⟨rfl, rfl⟩ | (have e32 := h 32 (by decide +kernel); constructor <;> (first | rfl | (simp only [e32]))))
    refine depR_cons (fun X X' h => ?_) ?_
    · (first | exact ⟨rfl, rfl⟩ | (have e32 := h 32 (by decide +kernel); constructor <;> (first | rfl | (simp only [e32]))))
    refine depR_cons (fun X X' h => ?_) ?_
    · (first | exact ⟨rfl, rfl⟩ | (have e32 := h 32 (by decide +kernel); constructor <;> (first | rfl | (simp only [e32]))))
    refine depR_cons (fun X X' h => ?_) ?_
    · (first | exact ⟨rfl, rfl⟩ | (have e32 := h 32 (by decide +kernel); constructor <;> (first | rfl | (simp only [e32]))))
    refine depR_cons (fun X X' h => ?_) ?_
    · (first | exact ⟨rfl, rfl⟩ | (have e32 := h 32 (by decide +kernel); constructor <;> (first | rfl | (simp only [e32]))))
    refine depR_cons (fun X X' h => ?_) ?_
    · (first | exact ⟨rfl, rfl⟩ | (have e32 := h 32 (by decide +kernel); constructor <;> (first | rfl | (simp only [e32]))))
    refine depR_cons (fun X X' h => ?_) ?_
    · (first | exact ⟨rfl, rfl⟩ | (have e32 := h 32 (by decide +kernel); constructor <;> (first | rfl | (simp only [e32]))))
    refine depR_cons (fun X X' h => ?_) ?_
    · (first | exact ⟨rfl, rfl⟩ | (have e32 := h 32 (by decide +kernel); constructor <;> (first | rfl | (simp only [e32]))))
    refine depR_cons (fun X X' h => ?_) ?_
    · (first | exact ⟨rfl, rfl⟩ | (have e32 := h 32 (by decide +kernel); constructor <;> (first | rfl | (simp only [e32]))))
    refine depR_cons (fun X X' h => ?_) ?_
    · (first | exact ⟨rfl, rfl⟩ | (have e32 := h 32 (by decide +kernel); constructor <;> (first | rfl | (simp only [e32]))))
    refine depR_cons (fun X X' h => ?_) ?_
    · (first | exact ⟨rfl, rfl⟩ | (have e32 := h 32 (by decide +kernel); constructor <;> (first | rfl | (simp only [e32]))))
    refine depR_cons (fun X X' h => ?_) ?_
    · (first | exact ⟨rfl, rfl⟩ | (have e32 := h 32 (by decide +kernel); constructor <;> (first | rfl | (simp only [e32]))))
    refine depR_cons (fun X X' h => ?_) ?_
    · (first | exact ⟨rfl, rfl⟩ | (have e32 := h 32 (by decide +kernel); constructor <;> (first | rfl | (simp only [e32]))))
    refine depR_cons (fun X X' h => ?_) ?_
    · (first | exact ⟨rfl, rfl⟩ | (have e32 := h 32 (by decide +kernel); constructor <;> (first | rfl | (simp only [e32]))))
    refine depR_cons (fun X X' h => ?_) ?_
    · (first | exact ⟨rfl, rfl⟩ | (have e32 := h 32 (by decide +kernel); constructor <;> (first | rfl | (simp only [e32]))))
    refine depR_cons (fun X X' h => ?_) ?_
    · (first | exact ⟨rfl, rfl⟩ | (have e32 := h 32 (by decide +kernel); have e52 := h 52 (by decide +kernel); constructor <;> (first | rfl | (simp only [e32, e52]))))
    refine depR_cons (fun X X' h => ?_) ?_
    · (first | exact ⟨rfl, rfl⟩ | (have e32 := h 32 (by decide +kernel); have e52 := h 52 (by decide +kernel); constructor <;> (first | rfl | (simp only [e32, e52]))))
    refine depR_cons (fun X X' h => ?_) ?_
    · (first | exact ⟨rfl, rfl⟩ | (have e32 := h 32 (by decide +kernel); have e52 := h 52 (by decide +kernel); constructor <;> (first | rfl | (simp only [e32, e52]))))
    refine depR_cons (fun X X' h => ?_) ?_
    · (first | exact ⟨rfl, rfl⟩ | (have e32 := h 32 (by decide +kernel); have e52 := h 52 (by decide +kernel); constructor <;> (first | rfl | (simp only [e32, e52]))))
    exact depR_nil
  repeat (first | ((first | (refine listF_step rfl (fun K' hK => ?_)) | (refine listF_yes rfl rfl (by decide) ?_ (fun K' hK => ?_); (focus (go_simp; done)))); unfold opF; go_simp; (refine hK _ _ ?_); clear hK K') | (refine listF_no (b' := true) rfl rfl (by decide) ?_ ?_ ?_; (focus (go_simp; done)); (focus rfl)) | (refine listF_no (b' := false) rfl rfl (by decide) ?_ ?_ ?_; (focus (go_simp; done)); (focus rfl)) | (refine listF_nu rfl rfl (by decide) ?_ ?_; (focus (go_simp; done))) | (refine listF_nil ?_) | (refine region_F ?_) | (refine cond_F true ?_ ?_; (focus (go_simp; done)); simp only [if_true]) | (refine cond_F false ?_ ?_; (focus (go_simp; done)); simp only [Bool.false_eq_true, if_false]) | (with_reducible go_step))
  exact ret_F (.bool true) (res1_F Try.results21 (by decide) (by go_simp)) ⟨rfl, HBb.out.trans (hwz.low (N := w.heap.size) HBb.out.size (by simp))⟩


end Go.Proofs.Ytbjgebbfachgfaa
