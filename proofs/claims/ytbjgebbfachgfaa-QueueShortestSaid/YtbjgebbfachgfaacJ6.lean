/- Texts of this proof, joined: Fast W19 W20 W33 Reg Fast2. -/
import Derived.StillTail
import Derived.Test.YtbjgebbfachgfaacJ4
import Derived.Test.YtbjgebbfachgfaacJ3
set_option linter.unusedVariables false
set_option linter.unusedSimpArgs false
set_option linter.unusedSectionVars false
set_option linter.all false
/- A walk whose frame is a function of the slot: laws for regions, tests, loops and results that do not depend on how wide the frame is. -/
namespace Go.Proofs.Ytbjgebbfachgfaa
open Go.RowKit

def evF (n : Nat) (s : Nat → Value) : Operand → Value
  | .tmp t => if t < n then s t else undef
  | .const v => v
  | .global g => .pointer (some ⟨g, 0, none⟩)
  | .func f => .func (.func f) #[] #[]
def tmA (n : Nat) (s : Nat → Value) : Array Value := (Array.range n).map s
def mkA (n : Nat) (s : Nat → Value) (ds : List Deferred) : Act := { tmps := tmA n s, defers := ds }
variable {ds : List Deferred}
@[simp] theorem mkA_tmps (n : Nat) (s : Nat → Value) : (mkA n s ds).tmps = tmA n s := rfl
theorem tmA_size (n : Nat) (s : Nat → Value) : (tmA n s).size = n := by simp [tmA]

@[simp] theorem evF_tmp (n : Nat) (s : Nat → Value) (t : Nat) : evF n s (.tmp t) = if t < n then s t else undef := rfl
@[simp] theorem evF_const (n : Nat) (s : Nat → Value) (v : Value) : evF n s (.const v) = v := rfl
@[simp] theorem evF_global (n : Nat) (s : Nat → Value) (g : Nat) : evF n s (.global g) = .pointer (some ⟨g, 0, none⟩) := rfl
@[simp] theorem evF_func (n : Nat) (s : Nat → Value) (f : Nat) : evF n s (.func f) = .func (.func f) #[] #[] := rfl
@[simp] theorem updS_some (s : Nat → Value) (d : Nat) (v : Value) (j : Nat) : updS s (some d) v j = if j = d then v else s j := rfl
@[simp] theorem updS_none (s : Nat → Value) (v : Value) : updS s none v = s := rfl

theorem mkA_get (n : Nat) (s : Nat → Value) (t : Nat) : (tmA n s)[t]? = if t < n then some (s t) else none := by
  unfold tmA
  rw [Array.getElem?_map, Array.getElem?_range]
  split <;> rfl
theorem mkA_eval (n : Nat) (s : Nat → Value) : (mkA n s ds).eval = evF n s := by
  funext o
  cases o with
  | tmp t =>
    show (tmA n s).getD t undef = if t < n then s t else undef
    rw [Array.getD_eq_getD_getElem?, mkA_get]
    split <;> rfl
  | const v => rfl
  | global g => rfl
  | func f => rfl
theorem mkA_put (n : Nat) (s : Nat → Value) (d : Option Nat) (v : Value) : (mkA n s ds).put d v = mkA n (updS s d v) ds := by
  cases d with
  | none => rfl
  | some d =>
    apply Act.ext'
    · apply Array.ext_getElem?
      intro k
      (try simp only [mkA_tmps])
      rw [mkA_get]
      simp only [Act.put, Array.getElem?_setIfInBounds, mkA_get, updS]
      have hsz : (tmA n s).size = n := by simp [tmA]
      by_cases h : d = k
      · subst h; simp [hsz]
      · have h' : ¬ k = d := fun e => h e.symm
        simp [h, h', mkA_get]
    · rfl
theorem mkA_of (a : Act) (h : a.defers = []) : a = mkA a.tmps.size (fun t => a.tmps.getD t undef) [] := by
  apply Act.ext'
  · apply Array.ext_getElem?
    intro k
    (try simp only [mkA_tmps])
    rw [mkA_get]
    split
    · rename_i hk; simp [Array.getD_eq_getD_getElem?, hk]
    · rename_i hk; rw [Array.getElem?_eq_none (by omega)]
  · exact h

@[simp] theorem mkA_get' (n : Nat) (s : Nat → Value) (t : Nat) : (tmA n s)[t]? = if t < n then some (s t) else none := mkA_get n s t
@[simp] theorem mkA_defers (n : Nat) (s : Nat → Value) : (mkA n s ds).defers = ds := rfl
@[simp] theorem mkA_fold (n : Nat) (s : Nat → Value) (d : Nat) (v : Value) : ({ tmps := (tmA n s).setIfInBounds d v, defers := ds } : Act) = mkA n (updS s (some d) v) ds := mkA_put n s (some d) v
@[simp] theorem mkA_eta (n : Nat) (s : Nat → Value) : ({ tmps := (tmA n s), defers := ds } : Act) = mkA n s ds := rfl

theorem wp_abs {P : Program} {c : Code} {Q : Exit → Act → World → Prop} {n : Nat} {S : Nat → Value} {w : World} (h : ∀ s', s' = S → c.wp P Q (mkA n s' ds) w) : c.wp P Q (mkA n S ds) w := h S rfl

/- one operation -/
def uponF (P : Program) (K : Value → World → Prop) : Result Next → Prop
  | .ok (.value v) w' => K v w'
  | .ok .skip w' => K undef w'
  | .ok (.enter f args) w' => Calls P f args w' fun e w'' => ∃ v, e = .returned v ∧ K v w''
  | .ok (.row r args) w' => Rows P r args w' K
  | _ => False
@[simp] theorem uponF_value (P : Program) (K : Value → World → Prop) (v : Value) (w : World) : uponF P K (.ok (.value v) w) = K v w := rfl
@[simp] theorem uponF_skip (P : Program) (K : Value → World → Prop) (w : World) : uponF P K (.ok .skip w) = K undef w := rfl
@[simp] theorem uponF_enter (P : Program) (K : Value → World → Prop) (f : FuncId) (args : Array Value) (w : World) : uponF P K (.ok (.enter f args) w) = Calls P f args w fun e w'' => ∃ v, e = .returned v ∧ K v w'' := rfl
def opF (P : Program) (o : Oper) (n : Nat) (s : Nat → Value) (w : World) (K : Value → World → Prop) : Prop := uponF P K ((execOp (evF n s) o).run P w)
theorem uponF.mono {P : Program} {K K' : Value → World → Prop} (h : ∀ v w, K v w → K' v w) {r : Result Next} (hh : uponF P K r) : uponF P K' r := by
  cases r with
  | ok n w' =>
    cases n with
    | value v => exact h _ _ hh
    | skip => exact h _ _ hh
    | enter f args => exact Calls.mono (h := hh) fun e w'' ⟨v, he, hk⟩ => ⟨v, he, h _ _ hk⟩
    | row r args => exact Rows.mono hh h
    | _ => exact hh
  | halt x w' => exact hh
theorem opF_wp {P : Program} {o : Oper} {n : Nat} {s : Nat → Value} {w : World} {K : Act → World → Prop} {Q : Exit → Act → World → Prop} (h : opF P o n s w fun v w' => K (mkA n (updS s o.dst v) ds) w') : o.wp P (mkA n s ds) w K Q := by
  unfold opF at h
  unfold Oper.wp
  rw [mkA_eval]
  generalize (execOp (evF n s) o).run P w = r at *
  cases r with
  | ok nx w' =>
    cases nx with
    | value v => simp only [uponF] at h; simp only [Oper.upon]; rw [mkA_put]; exact h
    | skip => simp only [uponF] at h; simp only [Oper.upon]; rw [mkA_put]; exact h
    | enter f args =>
      simp only [uponF] at h
      simp only [Oper.upon]
      exact h.mono fun e w'' ⟨v, he, hk⟩ => by subst he; show K ((mkA n s ds).put o.dst v) w''; rw [mkA_put]; exact hk
    | row r args =>
      simp only [uponF] at h
      simp only [Oper.upon]
      exact Rows.mono h fun v w'' hk => by rw [mkA_put]; exact hk
    | _ => exact (h : False).elim
  | halt x w' => exact (h : False).elim

/- a region in the order of the text -/
def listF (P : Program) (ops : Array Oper) (n : Nat) (K : (Nat → Value) → World → Prop) : List Oper → (Nat → Value) → World → Prop
  | [], s, w => K s w
  | o :: os, s, w => if Region.wanted o (yielded ops (tmA n s)) then opF P o n s w (fun v w' => listF P ops n K os (updS s o.dst v) w') else listF P ops n K os (updS s o.dst undef) w
section
variable {P : Program} {ops : Array Oper} {n : Nat} {K : (Nat → Value) → World → Prop} {o : Oper} {os : List Oper} {s : Nat → Value} {w : World}
theorem listF_nil (h : K s w) : listF P ops n K [] s w := h
theorem listF_step (hg : o.guard = none) (h : ∀ K' : Value → World → Prop, (∀ v w', listF P ops n K os (updS s o.dst v) w' → K' v w') → opF P o n s w K') : listF P ops n K (o :: os) s w := by
  unfold listF
  rw [if_pos (by simp [Region.wanted, hg])]
  exact h _ fun _ _ h => h
theorem wanted_F {j d : Nat} {b b' : Bool} (hg : o.guard = some (j, b)) (hd : (ops[j]?).bind (·.dst) = some d) (hn : d < n) (hs : s d = .bool b') : Region.wanted o (yielded ops (tmA n s)) = (b' == b) := by
  unfold Region.wanted
  rw [hg]
  simp only [yielded, hd, Option.bind_some, mkA_get, hn, if_true, hs]
  cases b <;> cases b' <;> rfl
theorem listF_yes {j d : Nat} {b : Bool} (hg : o.guard = some (j, b)) (hd : (ops[j]?).bind (·.dst) = some d) (hn : d < n) (hs : s d = .bool b) (h : ∀ K' : Value → World → Prop, (∀ v w', listF P ops n K os (updS s o.dst v) w' → K' v w') → opF P o n s w K') : listF P ops n K (o :: os) s w := by
  unfold listF
  rw [if_pos (by rw [wanted_F hg hd hn hs]; simp)]
  exact h _ fun _ _ h => h
theorem listF_no {j d : Nat} {b b' : Bool} (hg : o.guard = some (j, b)) (hd : (ops[j]?).bind (·.dst) = some d) (hn : d < n) (hs : s d = .bool b') (hb : (b' == b) = false) (h : listF P ops n K os (updS s o.dst undef) w) : listF P ops n K (o :: os) s w := by
  unfold listF
  rw [if_neg (by rw [wanted_F hg hd hn hs, hb]; simp)]
  exact h
theorem listF_nu {j d : Nat} {b : Bool} (hg : o.guard = some (j, b)) (hd : (ops[j]?).bind (·.dst) = some d) (hn : d < n) (hs : s d = undef) (h : listF P ops n K os (updS s o.dst undef) w) : listF P ops n K (o :: os) s w := by
  unfold listF
  have : Region.wanted o (yielded ops (tmA n s)) = false := by
    unfold Region.wanted
    rw [hg]
    simp only [yielded, hd, Option.bind_some, mkA_get, hn, if_true, hs]
    rfl
  rw [if_neg (by rw [this]; simp)]
  exact h
end
theorem listF_wp {P : Program} {ops : Array Oper} {n : Nat} {Q : Exit → Act → World → Prop} : ∀ (l : List Oper) (s : Nat → Value) (w : World), listF P ops n (fun s w => Q .normal (mkA n s ds) w) l s w → wpList P ops Q l (mkA n s ds) w
  | [], _, _, h => h
  | o :: os, s, w, h => by
    unfold listF at h
    refine wpList_step fun K hK => ?_
    split at h
    · rename_i hw
      rw [if_pos (show Region.wanted o (yielded ops (mkA n s ds).tmps) = true from hw)]
      refine opF_wp ?_
      exact uponF.mono (fun v w' h' => hK _ _ (listF_wp os _ _ h')) h
    · rename_i hw
      rw [if_neg (show ¬ Region.wanted o (yielded ops (mkA n s ds).tmps) = true from hw), mkA_put]
      exact hK _ _ (listF_wp os _ _ h)
theorem region_F {P : Program} {id : Nat} {l : List Oper} {n : Nat} {Q : Exit → Act → World → Prop} {s : Nat → Value} {w : World} (h : listF P l.toArray n (fun s w => Q .normal (mkA n s ds) w) l s w) : (Code.region id l.toArray false).wp P Q (mkA n s ds) w :=
  wp_region_lit (listF_wp l s w h)

/- a region that draws its order and whose operations keep a class of worlds -/
def listQ (P : Program) (ops : Array Oper) (n : Nat) (C : World → Prop) (K : (Nat → Value) → Prop) : List Oper → (Nat → Value) → Prop
  | [], s => K s
  | o :: os, s => if Region.wanted o (yielded ops (tmA n s)) then ∃ v, (∀ w, C w → Oper.quietUpon P C w v ((execOp (evF n s) o).run P w)) ∧ listQ P ops n C K os (updS s o.dst v) else listQ P ops n C K os (updS s o.dst undef)
@[simp] theorem quietUpon_value {P : Program} {C : World → Prop} {w w' : World} {u v : Value} : Oper.quietUpon P C w v (.ok (.value u) w') = (w' = w ∧ u = v) := rfl
@[simp] theorem quietUpon_enter {P : Program} {C : World → Prop} {w w' : World} {f : FuncId} {args : Array Value} {v : Value} : Oper.quietUpon P C w v (.ok (.enter f args) w') = (w' = w ∧ Calls P f args w (fun e w'' => e = .returned v ∧ C w'')) := rfl
section
variable {P : Program} {ops : Array Oper} {n : Nat} {C : World → Prop} {K : (Nat → Value) → Prop} {o : Oper} {os : List Oper} {s : Nat → Value}
theorem listQ_nil (h : K s) : listQ P ops n C K [] s := h
theorem listQ_step {v : Value} (hg : o.guard = none) (h1 : ∀ w, C w → Oper.quietUpon P C w v ((execOp (evF n s) o).run P w)) (h2 : listQ P ops n C K os (updS s o.dst v)) : listQ P ops n C K (o :: os) s := by
  unfold listQ
  rw [if_pos (by simp [Region.wanted, hg])]
  exact ⟨v, h1, h2⟩
theorem listQ_yes {v : Value} {j d : Nat} {b : Bool} (hg : o.guard = some (j, b)) (hd : (ops[j]?).bind (·.dst) = some d) (hn : d < n) (hs : s d = .bool b) (h1 : ∀ w, C w → Oper.quietUpon P C w v ((execOp (evF n s) o).run P w)) (h2 : listQ P ops n C K os (updS s o.dst v)) : listQ P ops n C K (o :: os) s := by
  unfold listQ
  rw [if_pos (by rw [wanted_F hg hd hn hs]; simp)]
  exact ⟨v, h1, h2⟩
theorem listQ_no {j d : Nat} {b b' : Bool} (hg : o.guard = some (j, b)) (hd : (ops[j]?).bind (·.dst) = some d) (hn : d < n) (hs : s d = .bool b') (hb : (b' == b) = false) (h : listQ P ops n C K os (updS s o.dst undef)) : listQ P ops n C K (o :: os) s := by
  unfold listQ
  rw [if_neg (by rw [wanted_F hg hd hn hs, hb]; simp)]
  exact h
theorem listQ_nu {j d : Nat} {b : Bool} (hg : o.guard = some (j, b)) (hd : (ops[j]?).bind (·.dst) = some d) (hn : d < n) (hs : s d = undef) (h : listQ P ops n C K os (updS s o.dst undef)) : listQ P ops n C K (o :: os) s := by
  unfold listQ
  have : Region.wanted o (yielded ops (tmA n s)) = false := by
    unfold Region.wanted
    rw [hg]
    simp only [yielded, hd, Option.bind_some, mkA_get, hn, if_true, hs]
    rfl
  rw [if_neg (by rw [this]; simp)]
  exact h
end
theorem listQ_wp {P : Program} {ops : Array Oper} {n : Nat} {C : World → Prop} {K : (Nat → Value) → Prop} {R : Act → Prop} (hR : ∀ s, K s → R (mkA n s ds)) : ∀ (l : List Oper) (s : Nat → Value), listQ P ops n C K l s → wpQuiet P ops C R l (mkA n s ds)
  | [], s, h => hR s h
  | o :: os, s, h => by
    unfold listQ at h
    unfold wpQuiet
    split at h
    · rename_i hw
      rw [if_pos (show Region.wanted o (yielded ops (mkA n s ds).tmps) = true from hw)]
      obtain ⟨v, h1, h2⟩ := h
      refine ⟨v, ?_, by rw [mkA_put]; exact listQ_wp hR os _ h2⟩
      intro w hw'
      unfold Oper.quietAt
      rw [mkA_eval]; exact h1 w hw'
    · rename_i hw
      rw [if_neg (show ¬ Region.wanted o (yielded ops (mkA n s ds).tmps) = true from hw), mkA_put]
      exact listQ_wp hR os _ h
theorem regionQ_F {P : Program} {id : Nat} {l : List Oper} {n : Nat} {Q : Exit → Act → World → Prop} {s : Nat → Value} {w : World} (C : World → Prop) (hm : P.follows .mixedOrders = true) (hB : Region.lexB .any l.toArray = true) (hC : C w.drew)
    (h : listQ P l.toArray n C (fun s => ∀ w', C w' → Q .normal (mkA n s ds) w') l s) : (Code.region id l.toArray true).wp P Q (mkA n s ds) w :=
  wp_region_quiet (C := C) hm hB hC (by
    have := listQ_wp (R := fun a' => ∀ w', C w' → Q .normal a' w') (fun s hs => hs) l s h
    simpa using this)

/- .. whose operations but the last ones leave the world as it is -/
def stillF (P : Program) (w : World) (K : Value → Prop) : Result Next → Prop
  | .ok (.value v) w' => w' = w ∧ K v
  | .ok .skip w' => w' = w ∧ K undef
  | .ok (.enter f args) w' => w' = w ∧ ∃ v, Calls P f args w (fun e w'' => e = .returned v ∧ w'' = w) ∧ K v
  | _ => False
@[simp] theorem stillF_value (P : Program) (w w' : World) (K : Value → Prop) (v : Value) : stillF P w K (.ok (.value v) w') = (w' = w ∧ K v) := rfl
@[simp] theorem stillF_enter (P : Program) (w w' : World) (K : Value → Prop) (f : FuncId) (args : Array Value) : stillF P w K (.ok (.enter f args) w') = (w' = w ∧ ∃ v, Calls P f args w (fun e w'' => e = .returned v ∧ w'' = w) ∧ K v) := rfl
def listS (P : Program) (ops : Array Oper) (n : Nat) (w : World) (K : (Nat → Value) → Prop) : List Oper → (Nat → Value) → Prop
  | [], s => K s
  | o :: os, s => if Region.wanted o (yielded ops (tmA n s)) then stillF P w (fun v => listS P ops n w K os (updS s o.dst v)) ((execOp (evF n s) o).run P w) else listS P ops n w K os (updS s o.dst undef)
section
variable {P : Program} {ops : Array Oper} {n : Nat} {w : World} {K : (Nat → Value) → Prop} {o : Oper} {os : List Oper} {s : Nat → Value}
theorem listS_nil (h : K s) : listS P ops n w K [] s := h
theorem listS_step (hg : o.guard = none) (h : ∀ K' : Value → Prop, (∀ v, listS P ops n w K os (updS s o.dst v) → K' v) → stillF P w K' ((execOp (evF n s) o).run P w)) : listS P ops n w K (o :: os) s := by
  unfold listS
  rw [if_pos (by simp [Region.wanted, hg])]
  exact h _ fun _ h => h
end
theorem listS_wp {P : Program} {ops : Array Oper} {n : Nat} {w : World} {K : (Nat → Value) → Prop} {R : Act → Prop} (hR : ∀ s, K s → R (mkA n s ds)) : ∀ (l : List Oper) (s : Nat → Value), listS P ops n w K l s → wpStill P ops w R l (mkA n s ds)
  | [], s, h => hR s h
  | o :: os, s, h => by
    unfold listS at h
    unfold wpStill
    split at h
    · rename_i hw
      rw [if_pos (show Region.wanted o (yielded ops (mkA n s ds).tmps) = true from hw)]
      unfold Oper.still
      rw [mkA_eval]
      generalize (execOp (evF n s) o).run P w = r at *
      cases r with
      | ok nx w' =>
        cases nx with
        | value v => simp only [stillF] at h; simp only [Oper.stillUpon]; rw [mkA_put]; exact ⟨h.1, listS_wp hR os _ h.2⟩
        | skip => simp only [stillF] at h; simp only [Oper.stillUpon]; rw [mkA_put]; exact ⟨h.1, listS_wp hR os _ h.2⟩
        | enter f args =>
          simp only [stillF] at h
          simp only [Oper.stillUpon]
          obtain ⟨h1, v, h2, h3⟩ := h
          exact ⟨h1, v, h2, by rw [mkA_put]; exact listS_wp hR os _ h3⟩
        | _ => exact (h : False).elim
      | halt x w' => exact (h : False).elim
    · rename_i hw
      rw [if_neg (show ¬ Region.wanted o (yielded ops (mkA n s ds).tmps) = true from hw), mkA_put]
      exact listS_wp hR os _ h
theorem regionT_F {P : Program} {id : Nat} {l : List Oper} {n : Nat} {Q : Exit → Act → World → Prop} {s : Nat → Value} {w : World} (k : Nat) (hm : P.follows .mixedOrders = true) (hB : Region.lexTailB .any l.toArray k = true)
    (h : listS P l.toArray n w.drew (fun s => listF P l.toArray n (fun s w => Q .normal (mkA n s ds) w) (l.drop k) s w.drew) (l.take k) s) : (Code.region id l.toArray true).wp P Q (mkA n s ds) w :=
  wp_region_still_tail k hm hB (listS_wp (R := fun a' => wpList P l.toArray Q (l.drop k) a' w.drew) (fun s hs => listF_wp _ s _ hs) _ s h)

/- .. by an invariant -/
def invF (P : Program) (ops : Array Oper) (n : Nat) (J : (Nat → Bool) → (Nat → Value) → World → Prop) : Nat → List Oper → Prop
  | _, [] => True
  | i, o :: os => (∀ (L : Nat → Bool) (s : Nat → Value) (w : World), L i = false → (∀ e ∈ o.after.toList, Region.binds .any e = true → L e.on = true) → J L s w →
      (∀ K : Value → World → Prop, (∀ v w', J (upd L i) (updS s o.dst v) w' → K v w') →
        if Region.wanted o (yielded ops (tmA n s)) then opF P o n s w K else K undef w)) ∧ invF P ops n J (i + 1) os
theorem invF_steps {P : Program} {ops : Array Oper} {n : Nat} {Q : Exit → Act → World → Prop} {J : (Nat → Bool) → (Nat → Value) → World → Prop} {s0 : Nat → Value} : ∀ (l : List Oper) (i : Nat), (∀ o ∈ l, ∀ d, o.dst = some d → d < n) → invF P ops n J i l → invSteps P ops Q (mkA n s0 ds) (List.range n) J i l
  | [], _, _, _ => trivial
  | o :: os, i, hd, h => by
    refine ⟨?_, invF_steps os (i + 1) (fun o ho => hd o (List.mem_cons_of_mem _ ho)) h.2⟩
    intro L s w hL hdp hJ K hK
    have hset : setAll (mkA n s0 ds) (List.range n) s = mkA n s ds := by
      apply Act.ext'
      · apply Array.ext_getElem?
        intro k
        (try simp only [mkA_tmps])
        rw [setAll_get]; show (if k ∈ List.range n ∧ k < (tmA n s0).size then some (s k) else (tmA n s0)[k]?) = (tmA n s)[k]?; rw [mkA_get, mkA_get]
        have hsz : (tmA n s0).size = n := by simp [tmA]
        rw [hsz]
        by_cases hk : k < n
        · simp [hk]
        · simp [hk]
      · rw [setAll_defers]; rfl
    rw [hset] at hK ⊢
    have h1 := h.1 L s w hL hdp hJ (fun v w' => K (mkA n (updS s o.dst v) ds) w') (fun v w' hj => by have := hK v w' hj; rwa [mkA_put] at this)
    split
    · rename_i hw; rw [if_pos (show Region.wanted o (yielded ops (tmA n s)) = true from hw)] at h1; exact opF_wp h1
    · rename_i hw; rw [if_neg (show ¬ Region.wanted o (yielded ops (tmA n s)) = true from hw)] at h1; rw [mkA_put]; exact h1
theorem regionI_F {P : Program} {id : Nat} {l : List Oper} {n : Nat} {Q : Exit → Act → World → Prop} {s : Nat → Value} {w : World} (J : (Nat → Bool) → (Nat → Value) → World → Prop)
    (hm : P.follows .mixedOrders = true) (hb : backB l.toArray = true) (hd : dstB l.toArray (List.range n) = true)
    (h0 : J (fun _ => false) (fun d => if d < n then s d else undef) w.drew)
    (he : ∀ s w, J (fun j => decide (j < l.length)) s w → Q .normal (mkA n s ds) w)
    (hs : invF P l.toArray n J 0 l) : (Code.region id l.toArray true).wp P Q (mkA n s ds) w := by
  have hset : ∀ s', setAll (mkA n s ds) (List.range n) s' = mkA n s' ds := by
    intro s'
    apply Act.ext'
    · apply Array.ext_getElem?
      intro k
      (try simp only [mkA_tmps])
      rw [setAll_get]; show (if k ∈ List.range n ∧ k < (tmA n s).size then some (s' k) else (tmA n s)[k]?) = (tmA n s')[k]?; rw [mkA_get, mkA_get]
      have hsz : (tmA n s).size = n := by simp [tmA]
      rw [hsz]
      by_cases hk : k < n
      · simp [hk]
      · simp [hk]
    · rw [setAll_defers]; rfl
  refine wp_region_inv (List.range n) J hm hb hd ?_ ?_ (invF_steps l 0 ?_ hs)
  · have : (fun d => (tmA n s).getD d undef) = fun d => if d < n then s d else undef := by
      funext d
      rw [Array.getD_eq_getD_getElem?, mkA_get]; split <;> rfl
    show J (fun _ => false) (fun d => (tmA n s).getD d undef) w.drew
    rw [this]; exact h0
  · intro s' w' hj; rw [hset]; exact he s' w' hj
  · intro o ho d hdst
    unfold dstB at hd
    rw [Array.all_eq_true] at hd
    obtain ⟨i, hi, rfl⟩ := List.mem_iff_getElem.1 ho
    have := hd i (by simpa using hi)
    simp only [List.getElem_toArray, hdst] at this
    simpa using this

/- entering, tests, loops, results -/
theorem enter_F {P : Program} {f : FuncId} {fn : Func} {c : Code} {args : Array Value} {w : World} {R : Ending → World → Prop} {n : Nat} (hf : P.funcs[f]? = some fn) (hb : fn.body = some c) (hn : fn.ntmps = n) (ha : args.size ≤ n)
    (h : ∀ s : Nat → Value, (∀ i, i < args.size → s i = args[i]?.getD undef) → c.wp P (bodyPost P fn R) (mkA n s []) w) : Calls P f args w R := by
  refine calls_of_wp hf hb ?_
  rw [hn]
  have hmk := mkA_of { tmps := args ++ Array.replicate (n - args.size) undef, defers := [] } rfl
  have hsz : (args ++ Array.replicate (n - args.size) undef).size = n := by simp; omega
  rw [hmk]
  simp only [hsz]
  refine h _ fun i hi => ?_
  simp [Array.getD_eq_getD_getElem?, Array.getElem?_append_left, hi]
theorem cond_F {P : Program} {c : Operand} {x y : Code} {n : Nat} {Q : Exit → Act → World → Prop} {s : Nat → Value} {w : World} (b : Bool) (hc : evF n s c = .bool b) (h : (if b then x else y).wp P Q (mkA n s ds) w) : (Code.cond c x y).wp P Q (mkA n s ds) w :=
  wp_cond (by rw [mkA_eval]; exact hc) h
theorem least_ex {p : Nat → Prop} (h : ∃ k, p k) : ∃ k, p k ∧ ∀ j, p j → k ≤ j := by
  obtain ⟨k, hk⟩ := h
  induction k using Nat.strongRecOn with
  | _ k ih =>
    by_cases hj : ∃ j, j < k ∧ p j
    · obtain ⟨j, hjk, hp⟩ := hj; exact ih j hjk hp
    · exact ⟨k, hk, fun j hp => by rcases Nat.lt_or_ge j k with h | h; exact absurd ⟨j, h, hp⟩ hj; exact h⟩
theorem loop_F {P : Program} {c : Code} {n : Nat} {Q : Exit → Act → World → Prop} (J : Nat → (Nat → Value) → World → Prop) {k0 : Nat} {s0 : Nat → Value} {w0 : World} (h0 : J k0 s0 w0)
    (round : ∀ k s w, J k s w → c.wp P (Exit.then (fun a' w' => ∃ k' s', a' = mkA n s' ds ∧ k' < k ∧ J k' s' w') Q) (mkA n s ds) w) : (Code.loop c).wp P Q (mkA n s0 ds) w0 := by
  classical
  let p : Act → World → Nat → Prop := fun a w k => ∃ s, a = mkA n s ds ∧ J k s w
  let μ : Act → World → Nat := fun a w => if h : ∃ k, p a w k then Classical.choose (least_ex h) else 0
  refine wp_loop (fun a w => ∃ k, p a w k) μ ⟨k0, s0, rfl, h0⟩ ?_
  intro a w hI
  have hμ : μ a w = Classical.choose (least_ex hI) := by show (if h : _ then _ else _) = _; rw [dif_pos hI]
  obtain ⟨⟨s, rfl, hJ⟩, hmin⟩ := Classical.choose_spec (least_ex hI)
  refine wp_mono (round _ s w hJ) ?_
  intro e a' w' h
  cases e with
  | normal =>
    obtain ⟨k', s', rfl, hlt, hJ'⟩ := h
    have hI' : ∃ k, p (mkA n s' ds) w' k := ⟨k', s', rfl, hJ'⟩
    refine ⟨hI', ?_⟩
    have hμ' : μ (mkA n s' ds) w' = Classical.choose (least_ex hI') := by show (if h : _ then _ else _) = _; rw [dif_pos hI']
    rw [hμ, hμ']
    exact Nat.lt_of_le_of_lt ((Classical.choose_spec (least_ex hI')).2 k' ⟨s', rfl, hJ'⟩) hlt
  | exit id => exact h
  | goto l => exact h
  | ret => exact h
  | panic ch => exact h
  | outgrown => exact h

theorem getD_F {n : Nat} {s : Nat → Value} {t : Nat} (h : t < n) : (tmA n s).getD t undef = s t := by
  rw [Array.getD_eq_getD_getElem?, mkA_get, if_pos h]; rfl
theorem ret_F {P : Program} {fn : Func} {R : Ending → World → Prop} {n : Nat} {s : Nat → Value} {w : World} (v : Value) (hr : (results fn (tmA n s)).run P w = .ok v w) (h : R (.returned v) w) : bodyPost P fn R .ret (mkA n s []) w := ⟨rfl, v, hr, h⟩
theorem res1_F {P : Program} {fn : Func} {p n : Nat} {s : Nat → Value} {w : World} {v : Value} (h : fn.results = #[.tmp p]) (hp : p < n) (hv : s p = v) : (results fn (tmA n s)).run P w = .ok v w := by
  subst hv
  simp only [results, h]
  simp [hp]

/-- block b reads as the cells l, and may be written -/
def Cells (w : World) (b : Nat) (l : List Value) : Prop := b < w.heap.size ∧ (∀ i v, l[i]? = some v → w.cell? ⟨b, i, none⟩ = some v) ∧ ∀ o, w.frozen? ⟨b, o, none⟩ = false
theorem Cells.at {w w' : World} {b : Nat} {l : List Value} (h : Cells w b l) (hb : Below w.heap.size w w') : Cells w' b l := by
  obtain ⟨e, f⟩ := bcell hb
  exact ⟨Nat.lt_of_lt_of_le h.1 hb.size, fun i v hv => (e b i h.1).trans (h.2.1 i v hv), fun o => (f b o h.1).trans (h.2.2 o)⟩
theorem Cells.up {w : World} {b : Nat} {l : List Value} (h : Cells w b l) (o : Obj) : Cells (w.alloc o) b l := h.at ((Below.refl _ _).alloc (Nat.le_refl _) _)
theorem Cells.drew {w : World} {b : Nat} {l : List Value} (h : Cells w b l) : Cells w.drew b l := h
theorem Cells.setFar {w : World} {b Y o : Nat} {l : List Value} {u : Value} (h : Cells w b l) (hn : b ≠ Y) : Cells (w.setCell ⟨Y, o, none⟩ u) b l :=
  ⟨by simpa using h.1, fun i v hv => (World.cell?_setCell_other _ _ _ _ (fun e => by cases e; exact hn rfl)).trans (h.2.1 i v hv), fun o => by rw [World.frozen?_setCell]; exact h.2.2 o⟩
theorem Cells.set {w : World} {b i : Nat} {l : List Value} {u : Value} (h : Cells w b l) : Cells (w.setCell ⟨b, i, none⟩ u) b (l.set i u) := by
  refine ⟨by simpa using h.1, fun j v hv => ?_, fun o => by rw [World.frozen?_setCell]; exact h.2.2 o⟩
  by_cases hij : i = j
  · subst hij
    rw [List.getElem?_set] at hv
    simp only [if_true] at hv
    split at hv
    · rename_i hl
      cases hv
      have hc := h.2.1 i _ (List.getElem?_eq_getElem hl)
      exact World.cell?_setCell_same' _ _ _ (by rw [hc]; rfl)
    · cases hv
  · rw [List.getElem?_set_ne hij] at hv
    exact (World.cell?_setCell_other _ _ _ _ (fun e => by cases e; exact hij rfl)).trans (h.2.1 j v hv)
theorem Cells.new {w : World} {cs : Array Value} {T : TypeId} {N : Nat} (hN : w.heap.size = N) : Cells (w.alloc (.cells cs T)) N cs.toList := by
  subst hN
  obtain ⟨X, l, hp, _, h2, _, h4, h5, h6⟩ := Box.new (N := w.heap.size) (m := cs.size) (w := w) (cs := cs) (T := T) (C := True) (c := cs.toList) (Nat.le_refl _) rfl (fun _ => rfl)
  cases hp
  rw [h6 trivial] at h4
  exact ⟨h2, h4, h5⟩
theorem Cells.cell {w : World} {b : Nat} {l : List Value} (h : Cells w b l) (i : Nat) {v : Value} (hv : l[i]? = some v) : w.cell? ⟨b, i, none⟩ = some v := h.2.1 i v hv

/-- while the named results of a call are handed back: two blocks read, written back as they were, a third result set -/
def RetJ (N : Nat) (w0 : World) (S A : Nat) (lS lA : List Value) (tS tA tE d1 d2 k : Nat) (e : Value) (L : Nat → Bool) (s : Nat → Value) (w : World) : Prop :=
  Cells w S lS ∧ Cells w A lA ∧ Below N w0 w ∧ s tS = .pointer (some ⟨S, 0, none⟩) ∧ s tA = .pointer (some ⟨A, 0, none⟩) ∧ (L 0 = true → s d1 = .agg lS.toArray) ∧ (L 1 = true → s d2 = .agg lA.toArray) ∧ (L k = true → s tE = e)

/-- a variable's block, made in the region itself: c says whether it has been set -/
def BoxJ (N : Nat) (w : World) (p : Value) (c : Bool) (Z V : List Value) : Prop := ∃ X, p = .pointer (some ⟨X, 0, none⟩) ∧ N ≤ X ∧ Cells w X (if c then V else Z)
theorem BoxJ.at {N : Nat} {w w' : World} {p : Value} {c : Bool} {Z V : List Value} (h : BoxJ N w p c Z V) (hb : Below w.heap.size w w') : BoxJ N w' p c Z V := by
  obtain ⟨X, h1, h2, h3⟩ := h; exact ⟨X, h1, h2, h3.at hb⟩
theorem BoxJ.setFar {N : Nat} {w : World} {p : Value} {c : Bool} {Z V : List Value} {Y o : Nat} {u : Value} (h : BoxJ N w p c Z V) (hY : p ≠ .pointer (some ⟨Y, 0, none⟩)) : BoxJ N (w.setCell ⟨Y, o, none⟩ u) p c Z V := by
  obtain ⟨X, h1, h2, h3⟩ := h
  exact ⟨X, h1, h2, h3.setFar (fun e => hY (by rw [h1, e]))⟩
theorem BoxJ.setOld {N : Nat} {w : World} {p : Value} {c : Bool} {Z V : List Value} {Y o : Nat} {u : Value} (h : BoxJ N w p c Z V) (hY : Y < N) : BoxJ N (w.setCell ⟨Y, o, none⟩ u) p c Z V := by
  obtain ⟨X, h1, h2, h3⟩ := h
  exact ⟨X, h1, h2, h3.setFar (by omega)⟩
theorem BoxJ.new {N : Nat} {w : World} {cs : Array Value} {T : TypeId} {c : Bool} {Z V : List Value} (hN : N ≤ w.heap.size) (hc : c = false) (hZ : cs.toList = Z) : BoxJ N (w.alloc (.cells cs T)) (.pointer (some ⟨w.heap.size, 0, none⟩)) c Z V := by
  subst hc hZ; exact ⟨_, rfl, hN, Cells.new rfl⟩
theorem BoxJ.lt {N : Nat} {w : World} {p : Value} {c : Bool} {Z V : List Value} (h : BoxJ N w p c Z V) : p ≠ .pointer (some ⟨w.heap.size, 0, none⟩) := by
  obtain ⟨X, h1, _, h3⟩ := h
  intro e
  rw [h1] at e; cases e
  exact Nat.lt_irrefl _ h3.1

end Go.Proofs.Ytbjgebbfachgfaa
/- waits: the program's, through slices.ContainsFunc. -/
namespace Go.Proofs.Ytbjgebbfachgfaa
open Go.RowKit

set_option maxHeartbeats 400000 in
theorem wclos_any (s : St) (w : World) :
    Calls Try.prog 64 #[.agg #[.int .i64 s.progress, .int .i64 s.since, .int .i64 s.charge, .int .i64 s.why, .int .i64 s.ended]] w fun e w' => e = .returned (.bool (s.why == 0)) ∧ Below w.heap.size w w' := by
  go_enter Try.func64, Try.ntmps64
  go_wp2_with fail
  go_ret
  exact ⟨rfl, (by repeat (first | (with_reducible exact Below.refl _ _) | (with_reducible refine bdrewN ?_ _) | (with_reducible refine Below.drew ?_) | (with_reducible refine Below.setCell ?_ (by first | omega | (simp; done) | (simp; omega)) _) | (with_reducible refine Below.alloc ?_ (by first | omega | (simp; done) | (simp; omega)) _)))⟩

def IdxRes (l : List St) (w : World) (e : Ending) (w' : World) : Prop := ∃ r : Int, e = .returned (.int .i64 r) ∧ decide (0 ≤ r) = waits l ∧ Below w.heap.size w w'

set_option maxHeartbeats 1000000 in
theorem indexFunc_any (a : Option Addr) (c : Nat) (l : List St) (w : World) (hl : l.length ≤ 9223372036854775807) (ha : RdSts w a l) :
    Calls Try.prog 71 #[.slice a l.length c, .func (.func 64) #[] #[]] w (IdxRes l w) := by
  go_enter Try.func71, Try.ntmps71
  go_wp2_with fail
  go_loopw [5, 8] (fun _ i wr => ∃ k : Nat, k ≤ l.length ∧ i = .int .i64 k ∧ Hid ((l.take k).any (fun s => s.why == 0) = false) ∧ Below w.heap.size w wr) (fun _ i _ => l.length - (intOf i).toNat)
  case atStart => exact ⟨0, Nat.zero_le _, rfl, hid rfl, Below.refl _ _⟩
  case round =>
    obtain ⟨k, hk, rfl, hw, hB⟩ := hrel
    obtain ⟨hc, hf⟩ := bcell hB
    by_cases hlt : k < l.length
    · obtain ⟨b, off, rfl, hb, h0, h1, h2, h3, h4⟩ := RdSts.ne ha hlt
      rcases beq_or l[k].why 0 with t1 | t1
      · go_wp2_with (go_at_call 64; refine (wclos_any l[k] _).mono ?_; rintro e w2 ⟨rfl, hb2⟩)
        go_ret
        exact ⟨_, rfl, by rw [show waits l = true from any_of_get _ l k hlt t1]; simp, hB.trans (hb2.mono hB.size)⟩
      · go_wp2_with (go_at_call 64; refine (wclos_any l[k] _).mono ?_; rintro e w2 ⟨rfl, hb2⟩)
        go_roundw
        case rel => exact ⟨k + 1, by omega, by go_num, hid (by rw [any_take_succ _ _ _ hlt, hw.out, t1]; rfl), hB.trans (hb2.mono hB.size)⟩
        case measure => simp [intOf]; omega
    · go_wp2_with fail
      go_ret
      refine ⟨_, rfl, ?_, hB⟩
      have := hw.out
      rw [List.take_of_length_le (by omega)] at this
      rw [show waits l = false from this]; rfl

set_option maxHeartbeats 1000000 in
theorem containsFunc_any (a : Option Addr) (c : Nat) (l : List St) (w : World) (hl : l.length ≤ 9223372036854775807) (ha : RdSts w a l) :
    Calls Try.prog 63 #[.slice a l.length c, .func (.func 64) #[] #[]] w fun e w' => e = .returned (.bool (waits l)) ∧ Below w.heap.size w w' := by
  go_enter Try.func63, Try.ntmps63
  go_wp2_with fail
  refine (indexFunc_any a c l _ hl ha).mono ?_
  rintro e w1 ⟨r, rfl, hr, hb1⟩
  have Hr := hid hr; clear hr
  go_wp2_with fail
  go_ret
  exact ⟨ret_bool (by rw [← Hr.out]), hb1⟩

/-- the program's waits, at a queue in memory whose Jobs lie at cell o + 1 -/
theorem qwaits_any (b o : Nat) (a : Option Addr) (c : Nat) (l : List St) (w : World) (hl : l.length ≤ 9223372036854775807) (ha : RdSts w a l) (hj : w.cell? ⟨b, o + 1, none⟩ = some (.slice a l.length c)) :
    Calls Try.prog 54 #[.pointer (some ⟨b, o, none⟩)] w fun e w' => e = .returned (.bool (waits l)) ∧ Below w.heap.size w w' := by
  go_enter Try.func54, Try.ntmps54
  go_wp2_with (go_at_call 63; refine (containsFunc_any a c l _ hl ha).mono ?_; rintro e w1 ⟨rfl, hb1⟩)
  go_ret
  exact ⟨rfl, hb1⟩

end Go.Proofs.Ytbjgebbfachgfaa
/- slices.Clone at the states. -/
namespace Go.Proofs.Ytbjgebbfachgfaa
open Go.RowKit

theorem Rd.flat' {α : Type} {f : α → List Value} {m : Nat} (hf : ∀ x, (f x).length = m) {w : World} {b off : Nat} : ∀ {l : List α}, (∀ i x, l[i]? = some x → ∀ j v, (f x)[j]? = some v → w.cell? ⟨b, off + i * m + j, none⟩ = some v) → ∀ j u, (l.flatMap f)[j]? = some u → w.cell? ((⟨b, off, none⟩ : Addr).add j) = some u := by
  intro l h j u hu
  have hadd : (⟨b, off, none⟩ : Addr).add j = ⟨b, off + j, none⟩ := by unfold Addr.add; split <;> simp_all
  rw [hadd]
  clear hadd
  induction l generalizing off j with
  | nil => simp at hu
  | cons x l ih =>
    simp only [List.flatMap_cons] at hu
    by_cases hj : j < m
    · rw [List.getElem?_append_left (by rw [hf]; exact hj)] at hu
      have := h 0 x rfl j u hu
      simpa using this
    · rw [List.getElem?_append_right (by rw [hf]; omega), hf] at hu
      have := ih (off := off + m) (fun i y hi j' v hv => by
        have := h (i + 1) y hi j' v hv
        rw [Nat.succ_mul] at this
        rw [show off + m + i * m + j' = off + (i * m + m) + j' by omega]; exact this) (j - m) hu
      rw [show off + j = off + m + (j - m) by omega]; exact this
theorem flat_len' {α : Type} {f : α → List Value} {m : Nat} (hf : ∀ x, (f x).length = m) : ∀ l : List α, (l.flatMap f).length = l.length * m
  | [] => by simp
  | x :: l => by simp only [List.flatMap_cons, List.length_append, flat_len' hf l, List.length_cons, hf, Nat.succ_mul]; omega
theorem st_one' (l : List St) : ∀ u ∈ l.flatMap St.cs, u.oneCell' = true := by
  intro u hu
  obtain ⟨s, _, hs⟩ := List.mem_flatMap.1 hu
  simp [St.cs] at hs
  rcases hs with rfl | rfl | rfl | rfl | rfl <;> rfl

set_option maxRecDepth 100000 in
set_option maxHeartbeats 1000000 in
theorem clone_any (b off : Nat) (c : Nat) (l : List St) (w : World) (hl : l.length ≤ 12) (hne : 0 < l.length) (ha : RdSts w (some ⟨b, off, none⟩) l) :
    Calls Try.prog 53 #[.slice (some ⟨b, off, none⟩) l.length c] w fun e w' => ∃ g cap, e = .returned (.slice (some ⟨g, 0, none⟩) l.length cap) ∧ OwnSts w.heap.size w' (.slice (some ⟨g, 0, none⟩) l.length cap) l ∧ Below w.heap.size w w' := by
  obtain ⟨i0, hi0, hz0, hz1, hz2⟩ := info_parts info_st
  have hcells : b < w.heap.size ∧ ∀ i x, l[i]? = some x → ∀ j v, (St.cs x)[j]? = some v → w.cell? ⟨b, off + i * 5 + j, none⟩ = some v := by
    rcases ha with h | ⟨b', off', he, hlt, hc⟩
    · simp [h] at hne
    · cases he; exact ⟨hlt, hc⟩
  obtain ⟨hb, hcells⟩ := hcells
  have hnews : ∀ j u, (l.flatMap St.cs)[j]? = some u → (w.alloc (.cells #[] 70)).cell? ((⟨b, off, none⟩ : Addr).add j) = some u := by
    refine Rd.flat' (f := St.cs) (m := 5) (fun _ => rfl) fun i x hi j v hv => ?_
    rw [(below_alloc1 w (.cells #[] 70)).cell (p := ⟨b, _, none⟩) hb]; exact hcells i x hi j v hv
  have Hnews := hid hnews; clear hnews hcells
  have Hown := hid (World.ownsRow_made (e := 70) (size := 5) (base := w.heap.size) w #[] 0 (Nat.le_refl _) (by unfold maxLen; omega) (by simp))
  have Hfl := hid (flat_len' (f := St.cs) (m := 5) (fun _ => rfl) l)
  have Hone := hid (st_one' l)
  have hm1 : 0 + l.length ≤ maxLen := by unfold maxLen; omega
  have hm2 : (0 + l.length) * 40 ≤ 140737488355328 := by omega
  have hnil : ∀ w, (binOp .eql 31 (.slice (some ⟨b, off, none⟩) l.length c) (.slice none 0 0)).run Try.prog w = .ok (.bool false) w := fun w => Lib.run_eql_slice_nil w _ _ _ _ _ _ _ Try.underlying31
  have hs0 : w.heap.size < w.heap.size + 1 := by omega
  go_enter Try.func53, Try.ntmps53
  go_wp2_with (at_builtin; refine wpList_append_own _ rfl _ _ 31 rfl w.heap.size 70 i0 _ 5 40 Try.underlying31 hi0 hz0 hz1 hz2 rfl (by decide) _ 0 [] rfl Hown.out ⟨b, off, none⟩ l.length c (l.flatMap St.cs) rfl Hfl.out Hnews.out Hone.out hm1 hm2 (by simp) ?_; intro v5 w5 ho5 hg5 _)
  go_ret
  have hg5' := hg5.size
  obtain ⟨g, cap, hv⟩ : ∃ g cap, v5 = .slice (some ⟨g, 0, none⟩) l.length cap := by
    rcases ho5.2 with ⟨_, h0⟩ | ⟨g, cap, _, hv, _⟩
    · omega
    · exact ⟨g, cap, by simpa using hv⟩
  subst hv
  refine ⟨g, cap, rfl, Own.of (n := l.length) rfl rfl (by simpa using ho5), ?_⟩
  exact ((Below.refl _ w).alloc (Nat.le_refl _) _).grown hg5 (by simp) (fun k hk => by cases hk; exact Nat.le_refl _)

end Go.Proofs.Ytbjgebbfachgfaa
/- slices.Clone of an empty list of states. -/
namespace Go.Proofs.Ytbjgebbfachgfaa
open Go.RowKit

set_option maxRecDepth 100000 in
set_option maxHeartbeats 1000000 in
theorem clone0_any (a : Option Addr) (c : Nat) (w : World) :
    Calls Try.prog 53 #[.slice a 0 c] w fun e w' => ∃ a' c', e = .returned (.slice a' 0 c') ∧ Below w.heap.size w w' := by
  obtain ⟨i0, hi0, hz0, hz1, hz2⟩ := info_parts info_st
  cases a with
  | none =>
    have hnil : ∀ w, (binOp .eql 31 (.slice none 0 c) (.slice none 0 0)).run Try.prog w = .ok (.bool true) w := fun w => Lib.run_eql_slice_nil w _ _ _ _ _ _ _ Try.underlying31
    go_enter Try.func53, Try.ntmps53
    go_wp2_with fail
    go_ret
    exact ⟨none, 0, rfl, Below.refl _ _⟩
  | some p =>
    have Hown := hid (World.ownsRow_made (e := 70) (size := 5) (base := w.heap.size) w #[] 0 (Nat.le_refl _) (by unfold maxLen; omega) (by simp))
    have hnil : ∀ w, (binOp .eql 31 (.slice (some p) 0 c) (.slice none 0 0)).run Try.prog w = .ok (.bool false) w := fun w => Lib.run_eql_slice_nil w _ _ _ _ _ _ _ Try.underlying31
    have hm1 : 0 + 0 ≤ maxLen := by unfold maxLen; omega
    go_enter Try.func53, Try.ntmps53
    go_wp2_with (at_builtin; refine wpList_append_own _ rfl _ _ 31 rfl w.heap.size 70 i0 _ 5 40 Try.underlying31 hi0 hz0 hz1 hz2 rfl (by decide) _ 0 [] rfl Hown.out p 0 c [] rfl rfl (by intro j u h; simp at h) (by simp) hm1 (by omega) (by simp) ?_; intro v5 w5 ho5 hg5 _)
    go_ret
    have hB : Below w.heap.size w w5 := ((Below.refl _ w).alloc (Nat.le_refl _) _).grown hg5 (by simp) (fun k hk => by cases hk; exact Nat.le_refl _)
    rcases ho5.2 with ⟨hv, h0⟩ | ⟨g, cap, _, hv, _⟩
    · subst hv; exact ⟨⟨none, 0, rfl⟩, hB⟩
    · subst hv; exact ⟨⟨some ⟨g, 0, none⟩, cap, rfl⟩, hB⟩

end Go.Proofs.Ytbjgebbfachgfaa
/- A region that draws its order, walked once in the order of the text: reads, calls that leave old memory alone, new blocks, stores; whatever the order. -/
namespace Go.Proofs.Ytbjgebbfachgfaa
open Go.RowKit

/-- where the blocks lie: at i the block that operation i makes; at ops.size + k the k-th old block that is written -/
abbrev Ad := Nat → Nat
/-- what an operation does: q: reads, or a call that leaves old memory alone; it reads the written blocks rd. a: makes a block. st: writes the block r. no: is passed over -/
inductive OK where
  | q (rd : List Nat)
  | a
  | st (r : Nat)
  | no
def OK.wr : OK → Nat → Option Nat
  | .a, i => some i
  | .st r, _ => some r
  | _, _ => none
def OK.uses : OK → List Nat
  | .q rd => rd
  | .st r => [r]
  | _ => []
def OK.isA : OK → Bool
  | .a => true
  | _ => false
@[simp] theorem OK.wr_q (rd : List Nat) (i : Nat) : (OK.q rd).wr i = none := rfl
@[simp] theorem OK.wr_a (i : Nat) : OK.a.wr i = some i := rfl
@[simp] theorem OK.wr_st (r i : Nat) : (OK.st r).wr i = some r := rfl
@[simp] theorem OK.wr_no (i : Nat) : OK.no.wr i = none := rfl

structure OldB (Bs : List Nat) (w0 w : World) : Prop where
  os : w.os = w0.os
  tape : w.tape = w0.tape
  output : w.output = w0.output
  size : w0.heap.size ≤ w.heap.size
  block : ∀ k, k < w0.heap.size → k ∉ Bs → w.heap[k]? = w0.heap[k]?
structure Only (b : Nat) (w w' : World) : Prop where
  os : w'.os = w.os
  tape : w'.tape = w.tape
  output : w'.output = w.output
  size : w'.heap.size = w.heap.size
  block : ∀ k, k ≠ b → w'.heap[k]? = w.heap[k]?
theorem cellBk {w w' : World} {b o : Nat} (h : w'.heap[b]? = w.heap[b]?) : w'.cell? ⟨b, o, none⟩ = w.cell? ⟨b, o, none⟩ := by
  simp only [World.cell?, h]
theorem frozBk {w w' : World} {b o : Nat} (h : w'.heap[b]? = w.heap[b]?) : w'.frozen? ⟨b, o, none⟩ = w.frozen? ⟨b, o, none⟩ := by
  simp only [World.frozen?, h]
theorem Cells.same {w w' : World} {b : Nat} {l : List Value} (h : Cells w b l) (hb : w'.heap[b]? = w.heap[b]?) (hs : w.heap.size ≤ w'.heap.size) : Cells w' b l :=
  ⟨Nat.lt_of_lt_of_le h.1 hs, fun i v hv => (cellBk hb).trans (h.2.1 i v hv), fun o => (frozBk hb).trans (h.2.2 o)⟩

def quietB (P : Program) (w : World) (v : Value) : Result Next → Prop
  | .ok (.value u) w' => w' = w ∧ u = v
  | .ok .skip w' => w' = w ∧ v = undef
  | .ok (.enter f args) w' => w' = w ∧ Calls P f args w fun e w'' => e = .returned v ∧ Below w.heap.size w w''
  | _ => False
@[simp] theorem quietB_value {P : Program} {w w' : World} {u v : Value} : quietB P w v (.ok (.value u) w') = (w' = w ∧ u = v) := rfl
@[simp] theorem quietB_enter {P : Program} {w w' : World} {f : FuncId} {args : Array Value} {v : Value} : quietB P w v (.ok (.enter f args) w') = (w' = w ∧ Calls P f args w (fun e w'' => e = .returned v ∧ Below w.heap.size w w'')) := rfl
def newB (w : World) (v : Value) (c : List Value) : Result Next → Prop
  | .ok (.value u) w' => ∃ cs T, w' = w.alloc (.cells cs T) ∧ cs.toList = c ∧ u = v
  | _ => False
theorem newB_value {w w' : World} {u v : Value} {c : List Value} : newB w v c (.ok (.value u) w') = ∃ cs T, w' = w.alloc (.cells cs T) ∧ cs.toList = c ∧ u = v := rfl
def writeB (b : Nat) (w : World) (c : List Value) : Result Next → Prop
  | .ok .skip w' => Only b w w' ∧ Cells w' b c
  | _ => False
theorem writeB_skip {b : Nat} {w w' : World} {c : List Value} : writeB b w c (.ok .skip w') = (Only b w w' ∧ Cells w' b c) := rfl

def isAat (ks : List OK) (i : Nat) : Bool := ((ks[i]?).map OK.isA).getD false
structure Good (kk : List OK) (m : Nat) (w0 : World) (Bs : List Nat) (X : Ad) : Prop where
  lo : ∀ i, isAat kk i = true → w0.heap.size ≤ X i
  ne : ∀ i j, isAat kk i = true → isAat kk j = true → i ≠ j → X i ≠ X j
  at0 : ∀ k b, Bs[k]? = some b → X (m + k) = b

def stepR (P : Program) (ops : Array Oper) (n : Nat) (w0 : World) (Bs : List Nat) (X : Ad) (i : Nat) (o : Oper) (k : OK) (v : Value) (c : List Value) (s : Nat → Value) (d : Nat → List Value) : Prop :=
  match k with
  | .no => Region.wanted o (yielded ops (tmA n s)) = false ∧ v = undef
  | .q rd => Region.wanted o (yielded ops (tmA n s)) = true ∧ ∀ w, OldB Bs w0 w → (∀ r ∈ rd, Cells w (X r) (d r)) → quietB P w v ((execOp (evF n s) o).run P w)
  | .a => Region.wanted o (yielded ops (tmA n s)) = true ∧ ∀ w, OldB Bs w0 w → w.heap.size = X i → newB w v c ((execOp (evF n s) o).run P w)
  | .st r => Region.wanted o (yielded ops (tmA n s)) = true ∧ v = undef ∧ ∀ w, OldB Bs w0 w → Cells w (X r) (d r) → writeB (X r) w c ((execOp (evF n s) o).run P w)

def updC (d : Nat → List Value) (r : Option Nat) (c : List Value) : Nat → List Value := fun j => if r = some j then c else d j
@[simp] theorem updC_none (d : Nat → List Value) (c : List Value) : updC d none c = d := by funext j; simp [updC]
@[simp] theorem updC_some (d : Nat → List Value) (r : Nat) (c : List Value) (j : Nat) : updC d (some r) c j = if r = j then c else d j := by simp [updC]

def walkR (P : Program) (kk : List OK) (ops : Array Oper) (n : Nat) (w0 : World) (Bs rs : List Nat) (K : (Nat → Value) → World → Prop) : Nat → List Oper → List OK → List (Ad → Value) → List (Ad → List Value) → (Ad → Nat → Value) → (Ad → Nat → List Value) → Prop
  | i, o :: os, k :: ks, v :: vs, c :: cs, s, d =>
    (∀ X, Good kk ops.size w0 Bs X → stepR P ops n w0 Bs X i o k (v X) (c X) (s X) (d X)) ∧ walkR P kk ops n w0 Bs rs K (i + 1) os ks vs cs (fun X => updS (s X) o.dst (v X)) (fun X => updC (d X) (k.wr i) (c X))
  | _, os, [], _, _, s, d => ∀ X, Good kk ops.size w0 Bs X → ∀ w, OldB Bs w0 w → (∀ r ∈ rs, Cells w (X r) (d X r)) → listF P ops n K os (s X) w
  | _, _, _, _, _, _, _ => False

/- the checks -/
def dstAt (l : List Oper) (j : Nat) : Option Nat := (l[j]?).bind (·.dst)
def aB (M : Array Nat) (i j : Nat) : Bool := (M.getD i 0).testBit j
def chkM (l : List Oper) (M : Array Nat) : Bool := (List.range l.length).all fun i => (List.range l.length).all fun j => !aB M i j || (decide (j < i) && match l[i]? with | some o => o.after.any fun e => Region.binds .any e && decide (e.on < i) && (e.on == j || aB M e.on j) | none => false)
def chkB (l : List Oper) (M : Array Nat) : Bool := (List.range l.length).all fun i => decide (M.getD i 0 < 2 ^ l.length)
def chkD (l : List Oper) (m : Nat) : Bool := (List.range m).all fun i => (List.range m).all fun j => i == j || dstAt l i == none || dstAt l i != dstAt l j
def chkO (l : List Oper) (M : Array Nat) (m : Nat) : Bool := (List.range m).all fun i => match l[i]? with | none => false | some o => (o.looksAt l.toArray).all fun t => (List.range m).all fun j => dstAt l j != some t || (decide (j < i) && aB M i j)
def chkU (l : List Oper) (M : Array Nat) (ks : List OK) (m : Nat) (nb : Nat) : Bool := (List.range m).all fun i => match ks[i]? with
  | none => false
  | some k => k.uses.all fun r => (decide (l.length ≤ r) && decide (r < l.length + nb) || decide (r < m) && isAat ks r && aB M i r) &&
      (List.range m).all fun j => ((ks[j]?).bind (·.wr j)) != some r || i == j || (decide (j < i) && aB M i j) || (decide (i < j) && aB M j i)
def chkT (l : List Oper) (M : Array Nat) (m : Nat) : Bool := (List.range l.length).all fun t => decide (t < m) || (List.range t).all fun j => aB M t j
def chkR (l : List Oper) (ks : List OK) (nb : Nat) : Bool :=
  let M := Region.before l.toArray
  Region.noSelect l.toArray && decide (ks.length ≤ l.length) && chkM l M && chkB l M && chkD l ks.length && chkO l M ks.length && chkU l M ks ks.length nb && chkT l M ks.length
/-- what an operation yields depends on no block but those of operations that came before it -/
def depR (len : Nat) (M : Array Nat) : Nat → List (Ad → Value) → List (Ad → List Value) → Prop
  | i, v :: vs, c :: cs => (∀ X X' : Ad, (∀ r, (r == i || aB M i r || decide (len ≤ r)) = true → X r = X' r) → v X = v X' ∧ c X = c X') ∧ depR len M (i + 1) vs cs
  | _, [], [] => True
  | _, _, _ => False

/- the frames and the contents ahead of operation i -/
def valAt (vs : List (Ad → Value)) (i : Nat) : Ad → Value := vs.getD i fun _ => undef
def conAt (cs : List (Ad → List Value)) (i : Nat) : Ad → List Value := cs.getD i fun _ => []
def wrAt (ks : List OK) (i : Nat) : Option Nat := (ks[i]?).bind (·.wr i)
def frA (l : List Oper) (vs : List (Ad → Value)) (s0 : Nat → Value) (X : Ad) : Nat → Nat → Value
  | 0 => s0
  | i + 1 => updS (frA l vs s0 X i) (dstAt l i) (valAt vs i X)
def cnL (ks : List OK) (cs : List (Ad → List Value)) (d0 : Nat → List Value) (X : Ad) (L : Nat → Bool) : Nat → Nat → List Value
  | 0, r => d0 r
  | i + 1, r => if L i = true ∧ wrAt ks i = some r then conAt cs i X else cnL ks cs d0 X L i r
def allT : Nat → Bool := fun _ => true

section
variable {P : Program} {l : List Oper} {ops : Array Oper} {n : Nat} {w0 : World} {Bs rs : List Nat} {K : (Nat → Value) → World → Prop} {ks : List OK} {vs : List (Ad → Value)} {cs : List (Ad → List Value)} {s0 : Nat → Value} {d0 : Nat → List Value}

theorem drop_cons {α : Type} {l : List α} {i : Nat} {x : α} {xs : List α} (h : l.drop i = x :: xs) : l[i]? = some x ∧ xs = l.drop (i + 1) := by
  constructor
  · rw [← List.head?_drop, h]; rfl
  · rw [← List.tail_drop, h]; rfl

theorem walkR_get {kk : List OK} : ∀ (t i : Nat), i + t = ks.length → walkR P kk ops n w0 Bs rs K i (l.drop i) (ks.drop i) (vs.drop i) (cs.drop i) (fun X => frA l vs s0 X i) (fun X => cnL ks cs d0 X allT i) →
    (∀ i', i ≤ i' → i' < ks.length → ∃ o k, l[i']? = some o ∧ ks[i']? = some k ∧ ∀ X, Good kk ops.size w0 Bs X → stepR P ops n w0 Bs X i' o k (valAt vs i' X) (conAt cs i' X) (frA l vs s0 X i') (cnL ks cs d0 X allT i')) ∧
    (∀ X, Good kk ops.size w0 Bs X → ∀ w, OldB Bs w0 w → (∀ r ∈ rs, Cells w (X r) (cnL ks cs d0 X allT ks.length r)) → listF P ops n K (l.drop ks.length) (frA l vs s0 X ks.length) w)
  | 0, i, hi, h => by
    obtain rfl : i = ks.length := by omega
    rw [List.drop_length] at h
    refine ⟨fun i' h1 h2 => by omega, ?_⟩
    cases ho : l.drop ks.length with
    | nil => rw [ho] at h; simpa only [walkR] using h
    | cons o os => rw [ho] at h; simpa only [walkR] using h
  | t + 1, i, hi, h => by
    have hk : i < ks.length := by omega
    have hkd := List.drop_eq_getElem_cons hk
    rw [hkd] at h
    cases ho : l.drop i with
    | nil => rw [ho] at h; simp [walkR] at h
    | cons o os =>
      cases hv : vs.drop i with
      | nil => rw [ho, hv] at h; simp [walkR] at h
      | cons v vs' =>
        cases hc : cs.drop i with
        | nil => rw [ho, hv, hc] at h; simp [walkR] at h
        | cons c cs' =>
          rw [ho, hv, hc] at h
          obtain ⟨h1, h2⟩ := h
          obtain ⟨ho1, rfl⟩ := drop_cons ho
          obtain ⟨hv1, rfl⟩ := drop_cons hv
          obtain ⟨hc1, rfl⟩ := drop_cons hc
          have ev : valAt vs i = v := by simp [valAt, List.getD_eq_getElem?_getD, hv1]
          have ec : conAt cs i = c := by simp [conAt, List.getD_eq_getElem?_getD, hc1]
          have ed : dstAt l i = o.dst := by simp [dstAt, ho1]
          have ew : wrAt ks i = ks[i].wr i := by simp [wrAt, hk]
          have es : (fun X => updS (frA l vs s0 X i) o.dst (v X)) = fun X => frA l vs s0 X (i + 1) := by
            funext X; show _ = updS _ (dstAt l i) (valAt vs i X); rw [ed, ev]
          have ecn : (fun X => updC (cnL ks cs d0 X allT i) (ks[i].wr i) (c X)) = fun X => cnL ks cs d0 X allT (i + 1) := by
            funext X r
            simp only [cnL, allT, updC, ew, ec, true_and]
          rw [es, ecn] at h2
          obtain ⟨g1, g2⟩ := walkR_get t (i + 1) (by omega) h2
          refine ⟨fun i' h3 h4 => ?_, g2⟩
          rcases Nat.eq_or_lt_of_le h3 with e | e
          · subst e
            refine ⟨o, ks[i], ho1, by simp [hk], fun X hX => ?_⟩
            rw [ev, ec]; exact h1 X hX
          · exact g1 i' e h4

theorem frA_un {X : Ad} {t : Nat} : ∀ i, (∀ j, j < i → dstAt l j ≠ some t) → frA l vs s0 X i t = s0 t
  | 0, _ => rfl
  | i + 1, h => by
    have h1 := h i (by omega)
    simp only [frA]
    cases hd : dstAt l i with
    | none => exact frA_un i fun j hj => h j (by omega)
    | some d =>
      simp only [updS_some]
      rw [if_neg (fun e => h1 (by rw [hd, e]))]
      exact frA_un i fun j hj => h j (by omega)
theorem frA_at {X : Ad} {t j : Nat} (hj : dstAt l j = some t) : ∀ i, j < i → (∀ j', j' < i → j' ≠ j → dstAt l j' ≠ some t) → frA l vs s0 X i t = valAt vs j X
  | 0, h, _ => by omega
  | i + 1, h, hu => by
    simp only [frA]
    by_cases hij : i = j
    · subst hij; rw [hj]; simp
    · have h1 := hu i (by omega) hij
      cases hd : dstAt l i with
      | none => exact frA_at hj i (by omega) fun j' hj' => hu j' (by omega)
      | some d =>
        simp only [updS_some]
        rw [if_neg (fun e => h1 (by rw [hd, e]))]
        exact frA_at hj i (by omega) fun j' hj' => hu j' (by omega)

theorem cnL_congr {X X' : Ad} {L L' : Nat → Bool} {r : Nat} : ∀ i, (∀ j, j < i → wrAt ks j = some r → (L j = true ∧ L' j = true ∧ conAt cs j X = conAt cs j X') ∨ (L j = false ∧ L' j = false)) → cnL ks cs d0 X L i r = cnL ks cs d0 X' L' i r
  | 0, _ => rfl
  | i + 1, h => by
    have ih := cnL_congr i fun j hj => h j (by omega)
    simp only [cnL]
    by_cases hw : wrAt ks i = some r
    · rcases h i (by omega) hw with ⟨h1, h2, h3⟩ | ⟨h1, h2⟩
      · rw [if_pos ⟨h1, hw⟩, if_pos ⟨h2, hw⟩, h3]
      · rw [if_neg (by simp [h1]), if_neg (by simp [h2]), ih]
    · rw [if_neg (fun e => hw e.2), if_neg (fun e => hw e.2), ih]
theorem cnL_skip {X : Ad} {L : Nat → Bool} {r i : Nat} : ∀ m, i ≤ m → (∀ j, i ≤ j → j < m → wrAt ks j = some r → L j = false) → cnL ks cs d0 X L m r = cnL ks cs d0 X L i r
  | 0, h, _ => by obtain rfl : i = 0 := by omega
                  rfl
  | m + 1, h, hs => by
    by_cases e : i = m + 1
    · subst e; rfl
    · simp only [cnL]
      rw [if_neg (fun ⟨h1, h2⟩ => by rw [hs m (by omega) (by omega) h2] at h1; cases h1)]
      exact cnL_skip m (by omega) fun j h1 h2 => hs j h1 (by omega)
end

end Go.Proofs.Ytbjgebbfachgfaa
/- The kit's own laws on one operation, used in a walk over frames as functions. -/
namespace Go.Proofs.Ytbjgebbfachgfaa
open Go.RowKit
variable {ds : List Deferred}

theorem opF_of_wp {P : Program} {o : Oper} {n d : Nat} {s : Nat → Value} {w : World} {K' : Value → World → Prop} (hd : o.dst = some d) (hn : d < n)
    (h : ∀ (K : Act → World → Prop) (Q : Exit → Act → World → Prop), (∀ v w', K' v w' → K ((mkA n s []).put o.dst v) w') → o.wp P (mkA n s []) w K Q) : opF P o n s w K' := by
  have hg : ∀ v, ((mkA n s []).put o.dst v).tmps.getD d undef = v := by
    intro v
    rw [mkA_put, mkA_tmps, getD_F hn, hd]; simp [updS]
  have h1 := h (fun a w' => a.defers = [] ∧ K' (a.tmps.getD d undef) w') (fun _ _ _ => False) (fun v w' hk => by rw [mkA_put]; refine ⟨rfl, ?_⟩; have := hg v; rw [mkA_put] at this; rw [this]; exact hk)
  unfold opF
  unfold Oper.wp at h1
  rw [mkA_eval] at h1
  generalize (execOp (evF n s) o).run P w = r at *
  cases r with
  | ok nx w' =>
    cases nx with
    | value v => simp only [Oper.upon] at h1; simp only [uponF]; rw [hg] at h1; exact h1.2
    | skip => simp only [Oper.upon] at h1; simp only [uponF]; rw [hg] at h1; exact h1.2
    | enter f args =>
      simp only [Oper.upon] at h1
      simp only [uponF]
      refine h1.mono fun e w'' he => ?_
      cases e with
      | returned v => exact ⟨v, rfl, by have he' : ((mkA n s []).put o.dst v).defers = [] ∧ K' (((mkA n s []).put o.dst v).tmps.getD d undef) w'' := he; rw [hg] at he'; exact he'.2⟩
      | panicked chain => exact (he : False).elim
      | outgrown => obtain ⟨_, _, hf⟩ := he; exact (hf : False).elim
    | defer dd =>
      simp only [Oper.upon] at h1
      have := h1.1
      rw [hd] at this
      simp [Act.put] at this
    | row r args =>
      simp only [Oper.upon] at h1
      simp only [uponF]
      exact Rows.mono h1 fun v w'' hk => by rw [hg] at hk; exact hk.2
    | _ => exact (h1 : False).elim
  | halt x w' => cases x <;> exact (h1 : False).elim

/-- from a frame that is written out to a frame as a function -/
theorem wp_toF {P : Program} {c : Code} {Q : Exit → Act → World → Prop} {a : Act} {w : World} {n : Nat} (hd : a.defers = []) (hn : a.tmps.size = n) (h : ∀ s : Nat → Value, (∀ t, s t = a.tmps.getD t undef) → c.wp P Q (mkA n s []) w) : c.wp P Q a w := by
  have := mkA_of a hd
  rw [hn] at this
  rw [this]
  exact h _ fun t => rfl

end Go.Proofs.Ytbjgebbfachgfaa
