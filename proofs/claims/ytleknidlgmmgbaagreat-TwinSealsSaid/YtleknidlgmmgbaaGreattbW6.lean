/- The reference: After. -/
import Derived.Test.YtleknidlgmmgbaaGreattbG13
import Derived.Test.YtleknidlgmmgbaaGreattbW12
import Derived.Test.YtleknidlgmmgbaaGreattbG8
import Derived.Test.YtleknidlgmmgbaaGreattbCX
set_option linter.all false
namespace Go.Proofs.YtleknidlgmmgbaaGreat

section
open Go.RowKit

section
variable {P : Program} {l : List Oper} {n : Nat} {s : Nat → Value} {w : World}
/-- the first k operations, each in a world of then: what it yields is as V says; lo and hi are the heap's sizes ahead of it and behind it -/
def stepsW (P : Program) (l : List Oper) (n : Nat) (s : Nat → Value) (w : World) (k0 : Nat) (V : Nat → Value → Nat → Nat → World → Prop) : Nat → Nat → List Oper → Prop
  | 0, _, _ => True
  | _ + 1, _, [] => True
  | t + 1, i, o :: os => (∀ (s' : Nat → Value) (w' : World), Below w.heap.size w w' → (∀ t, t < n → (∀ j, j < k0 → dstAt l j ≠ some t) → s' t = s t) → ∀ a b : Nat → Nat, (∀ j, aB (Region.before l.toArray) i j = true → w.heap.size ≤ a j ∧ b j ≤ w'.heap.size ∧ ∀ d, dstAt l j = some d → V j (s' d) (a j) (b j) w') → (∀ j q, aB (Region.before l.toArray) i j = true → aB (Region.before l.toArray) i q = true → j ≠ q → b j ≤ a q ∨ b q ≤ a j) →
      if Region.wanted o (yielded l.toArray (tmA n s')) then opF P o n s' w' (fun v w'' => V i v w'.heap.size w''.heap.size w'' ∧ Below w'.heap.size w' w'') else V i undef w'.heap.size w'.heap.size w') ∧ stepsW P l n s w k0 V t (i + 1) os
theorem stepsW_get {k0 : Nat} {V : Nat → Value → Nat → Nat → World → Prop} : ∀ (t i : Nat) (os : List Oper), stepsW P l n s w k0 V t i os → ∀ j o, j < t → os[j]? = some o → (∀ (s' : Nat → Value) (w' : World), Below w.heap.size w w' → (∀ t, t < n → (∀ j, j < k0 → dstAt l j ≠ some t) → s' t = s t) → ∀ a b : Nat → Nat, (∀ q, aB (Region.before l.toArray) (i + j) q = true → w.heap.size ≤ a q ∧ b q ≤ w'.heap.size ∧ ∀ d, dstAt l q = some d → V q (s' d) (a q) (b q) w') → (∀ q r, aB (Region.before l.toArray) (i + j) q = true → aB (Region.before l.toArray) (i + j) r = true → q ≠ r → b q ≤ a r ∨ b r ≤ a q) →
      if Region.wanted o (yielded l.toArray (tmA n s')) then opF P o n s' w' (fun v w'' => V (i + j) v w'.heap.size w''.heap.size w'' ∧ Below w'.heap.size w' w'') else V (i + j) undef w'.heap.size w'.heap.size w')
  | 0, _, _, _, j, _, hj, _ => absurd hj (Nat.not_lt_zero _)
  | t + 1, i, [], _, j, o, _, ho => by simp at ho
  | t + 1, i, o' :: os, h, 0, o, _, ho => by
    simp at ho; subst ho; exact h.1
  | t + 1, i, o' :: os, h, j + 1, o, hj, ho => by
    have := stepsW_get t (i + 1) os h.2 j o (by omega) (by simpa using ho)
    rw [show i + 1 + j = i + (j + 1) by omega] at this
    exact this
theorem regionW_core {K : (Nat → Value) → World → Prop} (k : Nat) (V : Nat → Value → Nat → Nat → World → Prop) (hchk : chkR l (List.replicate k (.q [])) 0 = true)
    (hV : ∀ i v a b w w', V i v a b w → Below w.heap.size w w' → V i v a b w') (hcg : ∀ s s' w, (∀ t, t < n → s t = s' t) → K s w → K s' w)
    (hs : stepsW P l n s w k V k 0 l)
    (ht : ∀ s' w' (a b : Nat → Nat), Below w.heap.size w w' → (∀ t, t < n → (∀ j, j < k → dstAt l j ≠ some t) → s' t = s t) → (∀ i, i < k → w.heap.size ≤ a i ∧ a i ≤ b i ∧ b i ≤ w'.heap.size ∧ ∀ d, dstAt l i = some d → V i (s' d) (a i) (b i) w') → (∀ i j, i < k → j < k → i ≠ j → b i ≤ a j ∨ b j ≤ a i) → listF P l.toArray n K (l.drop k) s' w') :
    ∃ J : (Nat → Bool) → (Nat → Value) → World → Prop, J (fun _ => false) (fun d => if d < n then s d else undef) w.drew ∧ (∀ s w, J (fun j => decide (j < l.length)) s w → K s w) ∧ invF P l.toArray n J 0 l := by
  have hc := chk_of hchk
  have hkl : k ≤ l.length := by have := hc.le; simpa using this
  have fin : ∀ {L : Nat → Bool} {s' : Nat → Value} {w' : World}, JV l n k s w V L s' w' → (∀ j, j < k → L j = true) → J2 P l n k K L s' w' := by
    intro L s' w' h hL
    obtain ⟨a, b, h1, h2⟩ := h.vs
    refine ⟨k, Nat.le_refl _, hkl, fun j => ?_, s', fun _ _ => rfl, ht s' w' a b h.b h.un (fun i hi => h1 i (hL i hi)) (fun i j hi hj => h2 i j (hL i hi) (hL j hj))⟩
    by_cases hj : j < k
    · rw [hL j hj]; simp [hj]
    · cases hl : L j with
      | false => simp [hj]
      | true => exact absurd (h.lo j hl) hj
  let J : (Nat → Bool) → (Nat → Value) → World → Prop := fun L s' w' => JV l n k s w V L s' w' ∨ J2 P l n k K L s' w'
  have hstep2 : ∀ (i : Nat) (o : Oper) (L : Nat → Bool) (s' : Nat → Value) (w' : World), l[i]? = some o → L i = false → (∀ j, j < i → L j = true) → J2 P l n k K L s' w' → ∀ Kv : Value → World → Prop, (∀ v w1, J (upd L i) (updS s' o.dst v) w1 → Kv v w1) → if Region.wanted o (yielded l.toArray (tmA n s')) then opF P o n s' w' Kv else Kv undef w' := by
    intro i o L s' w' ho hL hlow ⟨k1, hk1, hk2, hk3, s2, hs2, hl2⟩ Kv hK
    have hik : i = k1 := by
      have h1 := hk3 i
      rw [hL] at h1
      have : ¬ i < k1 := by simpa using h1.symm
      rcases Nat.lt_or_ge k1 i with h2 | h2
      · have := hlow k1 h2
        rw [hk3 k1] at this; simp at this
      · omega
    subst hik
    have hil : i < l.length := (List.getElem?_eq_some_iff.1 ho).1
    rw [List.drop_eq_getElem_cons hil] at hl2
    have e : l[i] = o := by rw [List.getElem?_eq_getElem hil] at ho; exact Option.some.inj ho
    rw [e] at hl2
    refine listF_congr hs2 Kv (fun v w1 h => hK v w1 (.inr ⟨i + 1, by omega, by omega, fun j => ?_, updS s2 o.dst v, upd_agree hs2 _ _, h⟩)) hl2
    by_cases hj : j = i
    · subst hj; simp [upd]
    · rw [upd_ne hj, hk3 j]
      by_cases h : j < i
      · simp [h]; omega
      · simp [h]; omega
  refine ⟨J, .inl ⟨(Below.refl _ _).drew, fun _ _ h => (by cases h), fun _ h => (by cases h), fun t ht _ => if_pos ht, ⟨fun _ => 0, fun _ => 0, fun _ h => (by cases h), fun _ _ h => (by cases h)⟩⟩, ?_, invF_of l 0 ?_⟩
  · intro s' w' hJ
    have hend : J2 P l n k K (fun j => decide (j < l.length)) s' w' := by
      rcases hJ with hJ | hJ
      · exact fin hJ fun j hj => by simp; omega
      · exact hJ
    obtain ⟨k1, hk1, hk2, hk3, s2, hs2, hl2⟩ := hend
    have : k1 = l.length := by
      have h1 := hk3 k1
      simp only [Nat.lt_irrefl, decide_false, decide_eq_false_iff_not] at h1
      omega
    subst this
    rw [List.drop_length] at hl2
    exact hcg _ _ _ (fun t ht => (hs2 t ht).symm) hl2
  · intro i o ho L s' w' hL hd hJ Kv hK
    rw [Nat.zero_add] at hL
    simp only [Nat.zero_add] at hK
    have hil : i < l.length := (List.getElem?_eq_some_iff.1 ho).1
    have hrk : (List.replicate k (OK.q [])).length = k := List.length_replicate
    by_cases him : i < k
    · rcases hJ with hJ | hJ
      · obtain ⟨a, b, h1, h2⟩ := hJ.vs
        have hanc : ∀ j, aB (Region.before l.toArray) i j = true → L j = true := by
          intro j ha
          obtain ⟨e, he, hb', hor⟩ := hc.anc i j o ho ha
          rcases hor with rfl | hor
          · exact hd e he hb'
          · have hon := hd e he hb'
            exact hJ.cl e.on j hon (Nat.lt_of_lt_of_le (hJ.lo _ hon) hkl) hor
        have hg := stepsW_get k 0 l hs i o him ho s' w' hJ.b hJ.un a b (fun j hj => by rw [Nat.zero_add] at hj; obtain ⟨g1, g2, g3, g4⟩ := h1 j (hanc j hj); exact ⟨g1, g3, g4⟩) (fun j q hj hq hne => by rw [Nat.zero_add] at hj hq; exact h2 j q (hanc j hj) (hanc q hq) hne)
        rw [Nat.zero_add] at hg
        have done : ∀ v w'', V i v w'.heap.size w''.heap.size w'' → Below w'.heap.size w' w'' → JV l n k s w V (upd L i) (updS s' o.dst v) w'' := by
          intro v w'' hv hb
          have hne : ∀ j, L j = true → j ≠ i := fun j hj e => by rw [e, hL] at hj; cases hj
          have hoth : ∀ j d, L j = true → dstAt l j = some d → updS s' o.dst v d = s' d := by
            intro j d hj hdj
            cases hod : o.dst with
            | none => rfl
            | some di =>
              rw [updS_some, if_neg]
              intro e
              have h3 : dstAt l i = some di := by simp [dstAt, ho, hod]
              exact hne j hj (hc.dst j i d (by rw [hrk]; exact hJ.lo j hj) (by rw [hrk]; exact him) hdj (by rw [h3, e]))
          refine ⟨hJ.b.trans (hb.mono hJ.b.size), ?_, ?_, ?_, fun q => if q = i then w'.heap.size else a q, fun q => if q = i then w''.heap.size else b q, ?_, ?_⟩
          · intro q j hq hql ha
            by_cases e : q = i
            · subst e
              have h3 := hanc j ha
              rw [upd_ne (hne j h3)]; exact h3
            · rw [upd_ne e] at hq
              have h3 := hJ.cl q j hq hql ha
              rw [upd_ne (hne j h3)]; exact h3
          · intro q hq
            by_cases e : q = i
            · subst e; exact him
            · rw [upd_ne e] at hq; exact hJ.lo q hq
          · intro t ht hn
            rw [← hJ.un t ht hn]
            cases hod : o.dst with
            | none => rfl
            | some di => rw [updS_some, if_neg]; intro e; exact hn i him (by simp [dstAt, ho, hod, e])
          · intro q hq
            by_cases e : q = i
            · subst e
              simp only [if_pos]
              refine ⟨hJ.b.size, hb.size, Nat.le_refl _, fun d hdd => ?_⟩
              have h3 : o.dst = some d := by simpa [dstAt, ho] using hdd
              rw [h3, updS_some, if_pos rfl]; exact hv
            · rw [upd_ne e] at hq
              simp only [if_neg e]
              obtain ⟨g1, g2, g3, g4⟩ := h1 q hq
              refine ⟨g1, g2, Nat.le_trans g3 hb.size, fun d hdd => ?_⟩
              rw [hoth q d hq hdd]; exact hV _ _ _ _ _ _ (g4 d hdd) hb
          · intro q j hq hj hqj
            by_cases e : q = i
            · have e2 : ¬ j = i := fun h => hqj (e.trans h.symm)
              rw [upd_ne e2] at hj
              simp only [if_pos e, if_neg e2]
              exact .inr (h1 j hj).2.2.1
            · rw [upd_ne e] at hq
              by_cases e2 : j = i
              · simp only [if_neg e, if_pos e2]
                exact .inl (h1 q hq).2.2.1
              · rw [upd_ne e2] at hj
                simp only [if_neg e, if_neg e2]
                exact h2 q j hq hj hqj
        split
        · rename_i hw
          rw [if_pos hw] at hg
          exact uponF.mono (fun v w'' h => hK v w'' (.inl (done v w'' h.1 h.2))) hg
        · rename_i hw
          rw [if_neg hw] at hg
          exact hK _ _ (.inl (done _ _ hg (Below.refl _ _)))
      · obtain ⟨k1, hk1, _, hk3, _⟩ := hJ
        rw [hk3 i] at hL
        simp at hL; omega
    · rcases hJ with hJ | hJ
      · have hlow : ∀ j, j < i → L j = true := by
          intro j hj
          have ha := hc.tail i j hil (by rw [hrk]; omega) hj
          obtain ⟨e, he, hb', hor⟩ := hc.anc i j o ho ha
          rcases hor with rfl | hor
          · exact hd e he hb'
          · have hon := hd e he hb'
            exact hJ.cl e.on j hon (Nat.lt_of_lt_of_le (hJ.lo _ hon) hkl) hor
        exact hstep2 i o L s' w' ho hL hlow (fin hJ fun j hj => hlow j (by omega)) Kv hK
      · have hJ' := hJ
        obtain ⟨k1, hk1, hk2, hk3, _⟩ := hJ'
        have hlow : ∀ j, j < i → L j = true := by
          intro j hj
          have ha := hc.tail i j hil (by rw [hrk]; omega) hj
          obtain ⟨e, he, hb', hor⟩ := hc.anc i j o ho ha
          have hon := hd e he hb'
          rcases hor with rfl | hor
          · exact hon
          · rw [hk3] at hon ⊢
            simp only [decide_eq_true_eq] at hon ⊢
            have := hc.lt e.on j (by omega) hor
            omega
        exact hstep2 i o L s' w' ho hL hlow hJ Kv hK
theorem regionW_F {id : Nat} {ds : List Deferred} {Q : Exit → Act → World → Prop} (k : Nat) (V : Nat → Value → Nat → Nat → World → Prop) (hm : P.follows .mixedOrders = true) (hb : backB l.toArray = true) (hd : dstB l.toArray (List.range n) = true)
    (hchk : chkR l (List.replicate k (.q [])) 0 = true)
    (hV : ∀ i v a b w w', V i v a b w → Below w.heap.size w w' → V i v a b w')
    (hs : stepsW P l n s w k V k 0 l)
    (ht : ∀ s' w' (a b : Nat → Nat), Below w.heap.size w w' → (∀ t, t < n → (∀ j, j < k → dstAt l j ≠ some t) → s' t = s t) → (∀ i, i < k → w.heap.size ≤ a i ∧ a i ≤ b i ∧ b i ≤ w'.heap.size ∧ ∀ d, dstAt l i = some d → V i (s' d) (a i) (b i) w') → (∀ i j, i < k → j < k → i ≠ j → b i ≤ a j ∨ b j ≤ a i) → listF P l.toArray n (fun s w => Q .normal (mkA n s ds) w) (l.drop k) s' w') :
    (Code.region id l.toArray true).wp P Q (mkA n s ds) w := by
  obtain ⟨J, h0, he, hi⟩ := regionW_core (K := fun s w => Q .normal (mkA n s ds) w) k V hchk hV (fun s s' w h hk => by rw [← mkA_congr h]; exact hk) hs ht
  exact regionI_F J hm hb hd h0 he hi
theorem regW {id : Nat} {ds : List Deferred} {Q : Exit → Act → World → Prop} (k : Nat) (ps : List PrV) (hm : P.follows .mixedOrders = true) (hb : backB l.toArray = true) (hd : dstB l.toArray (List.range n) = true)
    (hchk : chkR l (List.replicate k (.q [])) 0 = true) (hV : monoV ps) (hs : stepsW P l n s w k (atV ps) k 0 l)
    (ht : ∀ s' w' (a b : Nat → Nat), Below w.heap.size w w' → (∀ t, t < n → (∀ j, j < k → dstAt l j ≠ some t) → s' t = s t) → (∀ i, i < k → w.heap.size ≤ a i ∧ a i ≤ b i ∧ b i ≤ w'.heap.size ∧ ∀ d, dstAt l i = some d → atV ps i (s' d) (a i) (b i) w') → (∀ i j, i < k → j < k → i ≠ j → b i ≤ a j ∨ b j ≤ a i) → listF P l.toArray n (fun s w => Q .normal (mkA n s ds) w) (l.drop k) s' w') :
    (Code.region id l.toArray true).wp P Q (mkA n s ds) w := regionW_F k (atV ps) hm hb hd hchk (monoV_at hV) hs ht
end

section
variable {α : Type} {f : α → List Value} {m : Nat} {P : Program} {o : Oper} {n d : Nat} {s : Nat → Value} {w : World} {K' : Value → World → Prop}
/-- append to an empty slice without room: a new block -/
theorem opF_app0 (hd : o.dst = some d) (hn : d < n) (x y : Operand) (t : TypeId) (ho : o.op = .call { callee := .builtin .append, args := #[x, y], argTypes := #[t, t] })
    (e : TypeId) (i : TypeInfo) (z : Value) (bytes : Nat) (ht : P.underlying t = some (.slice e)) (hi : P.info? e = some i) (hz : i.zero = some z) (hsize : i.size = m) (hby : i.bytes = bytes)
    (hf : ∀ x, (f x).length = m) (g : Nat) (l2 : List α) (b off : Nat) (c : Nat) (hx : evF n s x = .slice (some ⟨g, 0, none⟩) 0 0) (hy : evF n s y = .slice (some ⟨b, off, none⟩) l2.length c) (hrd : Rd f m w (some ⟨b, off, none⟩) l2)
    (h0 : 0 < l2.length) (h63 : l2.length ≤ 9223372036854775807) (hbytes : l2.length * bytes ≤ 281474976710656)
    (h : ∀ B c' w', w.heap.size ≤ B → B < w'.heap.size → Rd f m w' (some ⟨B, 0, none⟩) l2 → Below w.heap.size w w' → K' (.slice (some ⟨B, 0, none⟩) l2.length c') w') : opF P o n s w K' := by
  have hfl : (l2.flatMap f).length = l2.length * m := by
    clear h0 h63 hbytes hrd hy h
    induction l2 with
    | nil => simp
    | cons x l ih => simp only [List.flatMap_cons, List.length_append, hf, ih, List.length_cons, Nat.add_mul]; omega
  rcases hrd with h9 | ⟨b', off', ha, hlt, hc⟩
  · rw [h9] at h0; simp at h0
  cases ha
  have hr := run_append_grow (P := P) w t o.type e i z ht hi hz ⟨g, 0, none⟩ 0 0 [] (by simp) (fun j v hj => by simp at hj) ⟨b, off, none⟩ l2.length c (l2.flatMap f) (by rw [hfl, hsize]) (Rd.flatAt hf hc) (by omega) (by omega)
    (by rw [nextslicecap_zero (by omega), hby]; simpa using hbytes)
  refine opF_of_wp hd hn (fun K Q hK => ?_)
  unfold Oper.wp execOp
  simp only [ho, resolve, invoke, builtin, Sem.run_bind, Sem.run_pure, Result.andThen_ok, List.map_toArray, List.map_cons, List.map_nil, mkA_eval, hx, hy, hr]
  refine hK _ _ ?_
  rw [Nat.zero_add]
  refine h _ _ _ (Nat.le_refl _) (by simp) ?_ ((Below.refl _ _).drew.alloc (by simp) _)
  have hC := Cells.newL (w := w.drew) (l := l2.flatMap f ++ (Builtin.zeroCells z.cells (grownCap w l2.length 0 e - l2.length)).toList) (T := e)
  have e9 : (l2.flatMap f ++ (Builtin.zeroCells z.cells (grownCap w l2.length 0 e - l2.length)).toList).toArray = #[] ++ (l2.flatMap f).toArray ++ Builtin.zeroCells z.cells (grownCap w l2.length 0 e - l2.length) := by simp
  rw [e9] at hC
  refine .inr ⟨_, 0, rfl, by simp, fun i y hy j v hv => ?_⟩
  have h9 := hC.2.1 (i * m + j) v (by rw [List.getElem?_append_left (by
    have := (List.getElem?_eq_some_iff.1 (flat_get f m hf l2 i y hy j v hv)).1; exact this)]; exact flat_get f m hf l2 i y hy j v hv)
  simpa using h9
end
end

section
open Go.RowKit


theorem made_ints (n : Nat) : (madeCells (Value.int .i64 0).cells (n * 1)).toList = (List.replicate n (0 : Int)).flatMap int1 := by
  have h1 : (List.replicate n (0 : Int)).flatMap int1 = List.replicate n (Value.int .i64 0) := by
    induction n with
    | zero => rfl
    | succ n ih => rw [List.replicate_succ, List.flatMap_cons, ih, List.replicate_succ]; rfl
  rw [h1]
  apply List.ext_getElem
  · simp [madeCells]
  · intro i h1 h2
    simp [madeCells, Value.cells, Nat.mod_one]
set_option maxRecDepth 100000 in
theorem opV_make {o : Oper} {m9 d k : Nat} {s : Nat → Value} {w : World} (hd : o.dst = some d) (hd9 : d < m9) (hk : k ≤ 1000) (ho : o.op = .makeSlice 22 (.const (.int .i64 k)) (.const (.int .i64 k))) :
    opF Tryz.prog o m9 s w (fun v w'' => (∃ B, v = .slice (some ⟨B, 0, none⟩) k k ∧ w.heap.size ≤ B ∧ B < w''.heap.size ∧ Cells w'' B ((List.replicate k (0 : Int)).flatMap int1)) ∧ Below w.heap.size w w'') := by
  obtain ⟨i0, hi0, hz0, hy0, hx0⟩ := info_parts info_int; obtain ⟨wN, hmk, hOm, hGm⟩ := run_make_full (P := Tryz.prog) w w.heap.size 22 3 i0 (.int .i64 0) 1 Tryz.underlying22 hi0 hz0 hy0 .i64 .i64 k (by rw [hx0]; omega) (by unfold maxLen; omega) (Nat.le_refl _); have hbN : Below w.heap.size w wN := ⟨hGm.os, hGm.tape, hGm.output, hGm.size, fun k hk => hGm.block k hk (by simp)⟩; have hO := Own.of (f := int1) (m := 1) (n := k) (l := List.replicate k (0 : Int)) (by simp) (by rw [← made_ints]) hOm; refine opF_of_wp hd hd9 (fun K1 Q hK1 => ?_); unfold Oper.wp execOp; have e1 : evF m9 s (.const (.int .i64 k)) = .int .i64 k := rfl
  simp only [ho, Sem.run_bind, Sem.run_pure, Result.andThen_ok, mkA_eval, e1, hmk]
  exact hK1 _ _ ⟨⟨_, rfl, Nat.le_refl _, hO.toCells.1, hO.toCells⟩, hbN⟩
def BegP (N : Nat) (n : Int) (tp : List Int) (v : Value) (W : World) : Prop := ∃ B B' c', v = .agg #[.slice (some ⟨B, 0, none⟩) 128 128, .slice (some ⟨B', 0, none⟩) tp.length c', .int .i64 0, .slice none 0 0, .int .i64 (n % 16), .int .i64 n, .int .i64 0, .int .i64 0] ∧ N ≤ B ∧ N ≤ B' ∧ B ≠ B' ∧ Cells W B ((List.replicate 128 (0 : Int)).flatMap int1) ∧ RdInts W (some ⟨B', 0, none⟩) tp
def beginS (l tp : List Int) (n : Int) : St4 := ⟨l ++ List.replicate (128 - l.length) 0, tp, 0, [], n % 16, n, 0, 0⟩
abbrev begL (l : List Int) (i : Nat) : List Int := l.take i ++ List.replicate (128 - i) 0
theorem begL_len {l : List Int} {i : Nat} (hi : i ≤ l.length) (hl : l.length ≤ 128) : (begL l i).length = 128 := by unfold begL; rw [List.length_append, List.length_take, List.length_replicate, Nat.min_eq_left hi]; omega
theorem begL_set {l : List Int} {i : Nat} {x : Int} (hi : i < l.length) (hl : l.length ≤ 128) (hx : l[i] = x) : (begL l i).set i x = begL l (i + 1) := by
  unfold begL; obtain ⟨k, hk⟩ : ∃ k, 128 - i = k + 1 := ⟨127 - i, by omega⟩
  have h1 : (l.take i).length = i := by rw [List.length_take]; omega
  rw [List.set_append_right _ _ (by omega), hk, List.replicate_succ, show i - (l.take i).length = 0 by omega, List.set_cons_zero, List.take_succ_eq_append_getElem hi, hx, show 128 - (i + 1) = k by omega]
  simp

set_option maxRecDepth 100000 in
set_option maxHeartbeats 16000000 in
theorem rbegin_ok (a : Option Addr) (c : Nat) (l : List Int) (bt ot : Nat) (tc : Nat) (tp : List Int) (n : Int) (w : World) (hR : RdInts w a l) (hT : RdInts w (some ⟨bt, ot, none⟩) tp) (hl : l.length ≤ 128) (ht : tp.length ≤ 200) (ht0 : 0 < tp.length) (ho : oddI l < 0) (hot : oddI tp < 0) (hn : addrB n = true) :
    Calls Tryz.prog 70 #[.slice a l.length c, .slice (some ⟨bt, ot, none⟩) tp.length tc, .int .i64 n] w (fun e w' => ∃ A : SA, e = .returned (.tuple #[.agg #[.slice A.sa (beginS l tp n).store.length A.sc, .slice A.ta (beginS l tp n).tape.length A.tc, .int .i64 (beginS l tp n).taken, .slice A.pa (beginS l tp n).printed.length A.pc, .int .i64 (beginS l tp n).time, .int .i64 (beginS l tp n).pc, .int .i64 (beginS l tp n).done, .int .i64 (beginS l tp n).why], .int .i64 0]) ∧ RdSt w' (beginS l tp n) A ∧ (∀ k, k < w.heap.size → A.free (beginS l tp n) k) ∧ Below w.heap.size w w') := by
 have HR := hid hR; have HT := hid hT; clear hR hT; obtain ⟨i0, hi0, hz0, hy0, hx0⟩ := info_parts info_int
 have hl2 : (l.length : Int) ≤ 128 := by omega
 have ht2 : (tp.length : Int) ≤ 200 := by omega
 have n3 : ¬ 0 ≤ oddI l := by omega
 have n4 : ¬ 0 ≤ oddI tp := by omega
 have hn2 := (inI_iff _ _ _).1 hn; have tm : n.tmod 16 = n % 16 := Int.tmod_eq_emod_of_nonneg hn2.1; have wz := IntWalk.i64_in (n % 16) (by omega); have hn0 : 0 ≤ n ∧ n ≤ 127 := hn2; clear hn2
 refine enter_F Tryz.func70 rfl Tryz.ntmps70 (by simp) ?_
 intro s0 hs; have sl0 : s0 0 = .slice a l.length c := hs 0 (by simp); have sl1 : s0 1 = .slice (some ⟨bt, ot, none⟩) tp.length tc := hs 1 (by simp); have sl2 : s0 2 = .int .i64 n := hs 2 (by simp); clear hs; have HB := hid (OldB.refl [] w)
 repeat ((fail_if_success refine stp ?_); go_step)
 refine region_F ?_; refine pa (fun w1 B6 hB kb6' hb2 => ?_); have gb6 := HB.out.gB hB; have eb6 := eB hB; clear hB; replace HB := bE HB hb2; clear hb2; have kb6 := kb6'; clear kb6'; have qb6 := kb6.1; refine pl ?_; refine lsa fun s3 z' => ?_; replace sl0 := slg z' sl0; replace sl1 := slg z' sl1; replace sl2 := slg z' sl2; have sl6 := gu 6 z'; clear z'; refine lsn ?_
 repeat ((fail_if_success refine stp ?_); go_step)
 refine region_F ?_
 iterate 4 refine pl ?_
 iterate 3 refine py ?_
 refine pl ?_; refine lsa fun s4 z' => ?_; replace sl0 := slg z' sl0; replace sl1 := slg z' sl1; replace sl2 := slg z' sl2; replace sl6 := slg z' sl6; have sl17 := gu 17 z'; clear z'; refine lsn ?_
 repeat ((fail_if_success refine stp ?_); go_step)
 refine cond_f ?_
 repeat ((fail_if_success refine stp ?_); go_step)
 refine region_F ?_; refine pl ?_; refine cal (rodd_any a c l _ (Rd.oldB HR.out HB.out (by simp)) (by omega)) ?_; rintro e w5 ⟨rfl, hb6⟩; refine ⟨_, rfl, ?_⟩; clear qb6; replace kb6 := kb6.at hb6; replace HB := bE HB hb6; clear hb6; have qb6 := kb6.1; refine pl ?_; refine pl ?_; refine py ?_; refine listF_yes rfl rfl (by decide) ?_ (fun K' hK => ?_); (focus (go_simp; done)); unfold opF; go_simp; refine (rodd_any (some ⟨bt, ot, none⟩) tc tp _ (Rd.oldB HT.out HB.out (by simp)) (by omega)).mono ?_; rintro e w7 ⟨rfl, hb8⟩; refine ⟨_, rfl, hK _ _ ?_⟩; clear hK K'; clear qb6; replace kb6 := kb6.at hb8; replace HB := bE HB hb8; clear hb8; have qb6 := kb6.1; refine py ?_; refine pl ?_; refine pl ?_; refine py ?_; refine listF_yes rfl rfl (by decide) ?_ (fun K' hK => ?_); (focus (go_simp; done)); unfold opF; go_simp; refine (raddr_any n _).mono ?_; rintro e w' ⟨rfl, rfl⟩
 refine ⟨_, rfl, hK _ _ ?_⟩; clear hK K'; refine py ?_; refine pl ?_; refine lsa fun s10 z' => ?_; replace sl0 := slg z' sl0; replace sl1 := slg z' sl1; replace sl2 := slg z' sl2; replace sl6 := slg z' sl6; have sl31 := gu 31 z'; clear z' sl17; refine lsn ?_
 repeat ((fail_if_success refine stp ?_); go_step)
 refine cond_f ?_
 repeat ((fail_if_success refine stp ?_); go_step)
 refine regW 9 [fun v a b W => ∃ B, v = .slice (some ⟨B, 0, none⟩) 128 128 ∧ a ≤ B ∧ B < b ∧ Cells W B ((List.replicate 128 (0 : Int)).flatMap int1), fun v a b W => ∃ B, v = .slice (some ⟨B, 0, none⟩) 0 0 ∧ a ≤ B ∧ B < b ∧ Cells W B ([] : List Value), fun v _ _ _ => v = .slice (some ⟨bt, ot, none⟩) tp.length tc, fun v a b W => ∃ B c', v = .slice (some ⟨B, 0, none⟩) tp.length c' ∧ a ≤ B ∧ B < b ∧ RdInts W (some ⟨B, 0, none⟩) tp, fun v _ _ _ => v = .int .i64 n, fun v _ _ _ => v = .int .i64 n, fun v _ _ _ => v = .int .i64 (n % 16), fun v a b W => BegP w7.heap.size n tp v W, fun v a b W => ∃ B, v = .pointer (some ⟨B, 0, none⟩) ∧ a ≤ B ∧ B < b ∧ Cells W B [Value.slice none 0 0, .slice none 0 0, .int .i64 0, .slice none 0 0, .int .i64 0, .int .i64 0, .int .i64 0, .int .i64 0]] (by kernel_rfl) (by kernel_rfl) (by kernel_rfl) (by kernel_rfl) ⟨fun _ _ _ _ _ ⟨B, h1, h2, h3, h4⟩ hb => ⟨B, h1, h2, h3, h4.at hb⟩, fun _ _ _ _ _ ⟨B, h1, h2, h3, h4⟩ hb => ⟨B, h1, h2, h3, h4.at hb⟩, fun _ _ _ _ _ h _ => h, fun _ _ _ _ _ ⟨B, c', h1, h2, h3, h4⟩ hb => ⟨B, c', h1, h2, h3, Rd.at h4 hb⟩, fun _ _ _ _ _ h _ => h, fun _ _ _ _ _ h _ => h, fun _ _ _ _ _ h _ => h, fun _ _ _ _ _ ⟨B, B', c', h1, h2, h3, h4, h5, h6⟩ hb => ⟨B, B', c', h1, h2, h3, h4, h5.at hb, Rd.at h6 hb⟩, fun _ _ _ _ _ ⟨B, h1, h2, h3, h4⟩ hb => ⟨B, h1, h2, h3, h4.at hb⟩, trivial⟩ ⟨?_, ?_, ?_, ?_, ?_, ?_, ?_, ?_, ?_, trivial⟩ ?_
 · rintro sJ wJ hbJ hunJ aI bI hdJ hpJ
   rw [if_pos (by rfl)]; exact opV_make rfl (by decide) (by decide) rfl
 · rintro sJ wJ hbJ hunJ aI bI hdJ hpJ
   rw [if_pos (by rfl)]; exact opV_slice (by intro K' hK; unfold opF; go_simp; exact hK)
 · rintro sJ wJ hbJ hunJ aI bI hdJ hpJ
   have sv1 := (hunJ 1 (by decide) (un_of (by kernel_rfl))).trans sl1; rw [if_pos (by rfl)]; exact oV
 · rintro sJ wJ hbJ hunJ aI bI hdJ hpJ
   obtain ⟨lw1, hw1, hv1⟩ := hdJ 1 (by kernel_rfl); replace hv1 := hv1 34 rfl; obtain ⟨B34, sv34, gl34, gr34, kb34'⟩ := hv1; have sv35 : sJ 35 = .slice (some ⟨bt, ot, none⟩) tp.length tc := (hdJ 2 (by kernel_rfl)).2.2 35 rfl; rw [if_pos (by rfl)]; have hTJ := Rd.at (Rd.oldB HT.out HB.out (by simp)) hbJ; refine opF_app0 (d := 36) rfl (by decide) (.tmp 34) (.tmp 35) _ rfl 3 i0 _ 8 Tryz.underlying22 hi0 hz0 hy0 hx0 (fun _ => rfl) B34 tp bt ot tc (by go_simp) (by go_simp) hTJ ht0 (by omega) (by omega) (fun B c' w' h1 h2 h3 h4 => ?_); exact ⟨⟨B, c', rfl, h1, h2, h3⟩, h4⟩
 · rintro sJ wJ hbJ hunJ aI bI hdJ hpJ
   have sv2 := (hunJ 2 (by decide) (un_of (by kernel_rfl))).trans sl2; rw [if_pos (by rfl)]; exact oV
 · rintro sJ wJ hbJ hunJ aI bI hdJ hpJ
   have sv2 := (hunJ 2 (by decide) (un_of (by kernel_rfl))).trans sl2; rw [if_pos (by rfl)]; exact oV
 · rintro sJ wJ hbJ hunJ aI bI hdJ hpJ
   have sv38 : sJ 38 = .int .i64 n := (hdJ 5 (by kernel_rfl)).2.2 38 rfl; rw [if_pos (by rfl)]; exact oV
 · rintro sJ wJ hbJ hunJ aI bI hdJ hpJ
   obtain ⟨lw0, hw0, hv0⟩ := hdJ 0 (by kernel_rfl); replace hv0 := hv0 33 rfl; obtain ⟨B33, sv33, ha33, hb33, kc33⟩ := hv0; obtain ⟨lw3, hw3, hv3⟩ := hdJ 3 (by kernel_rfl); replace hv3 := hv3 36 rfl; obtain ⟨B36, c36, sv36, ha36, hb36, kc36⟩ := hv3; have sv37 : sJ 37 = .int .i64 n := (hdJ 4 (by kernel_rfl)).2.2 37 rfl; have sv39 : sJ 39 = .int .i64 (n % 16) := (hdJ 6 (by kernel_rfl)).2.2 39 rfl; rw [if_pos (by rfl)]; have hp := hpJ 0 3 (by kernel_rfl) (by kernel_rfl) (by decide)
   have hne : B33 ≠ B36 := by omega
   have hw1 := Nat.le_trans lw0 ha33; have hw2 := Nat.le_trans lw3 ha36; unfold opF; go_simp; exact ⟨⟨B33, B36, c36, rfl, hw1, hw2, hne, kc33, kc36⟩, Below.refl _ _⟩
 · rintro sJ wJ hbJ hunJ aI bI hdJ hpJ
   rw [if_pos (by rfl)]; exact opV_alloc (by intro K' hK; unfold opF; go_simp; exact hK)
 intro s13 w11 aJ bJ hb12 hunJ hvJ hapJ; replace sl0 := (hunJ 0 (by decide) (un_of (by kernel_rfl))).trans sl0; replace sl6 := (hunJ 6 (by decide) (un_of (by kernel_rfl))).trans sl6; clear sl1 sl2 sl31; obtain ⟨gw33, gm33, gh33, hq33⟩ := hvJ 0 (by decide); obtain ⟨B33, sl33, ha33, hb33, kc33⟩ := hq33 33 rfl; clear hq33; obtain ⟨gw34, gm34, gh34, hq34⟩ := hvJ 1 (by decide); obtain ⟨B34, sl34, gl34, gr34, kb34'⟩ := hq34 34 rfl; clear hq34; obtain ⟨gw36, gm36, gh36, hq36⟩ := hvJ 3 (by decide); obtain ⟨B36, c36, sl36, ha36, hb36, kc36⟩ := hq36 36 rfl; clear hq36; obtain ⟨gw40, gm40, gh40, hq40⟩ := hvJ 7 (by decide); obtain ⟨g, g2, c2, sl40, hg0, hg2, hgg, kg', kg2⟩ := hq40 40 rfl; clear hq40; obtain ⟨gw8, gm8, gh8, hq8⟩ := hvJ 8 (by decide); obtain ⟨B8, sl8, gl8, gr8, kb8'⟩ := hq8 8 rfl; clear hq8; have ap33_34 := hapJ 0 1 (by decide) (by decide) (by decide); have ap33_36 := hapJ 0 3 (by decide) (by decide) (by decide); have ap33_40 := hapJ 0 7 (by decide) (by decide) (by decide)
 have ap33_8 := hapJ 0 8 (by decide) (by decide) (by decide); have ap34_36 := hapJ 1 3 (by decide) (by decide) (by decide); have ap34_40 := hapJ 1 7 (by decide) (by decide) (by decide); have ap34_8 := hapJ 1 8 (by decide) (by decide) (by decide); have ap36_40 := hapJ 3 7 (by decide) (by decide) (by decide); have ap36_8 := hapJ 3 8 (by decide) (by decide) (by decide); have ap40_8 := hapJ 7 8 (by decide) (by decide) (by decide); clear hunJ hvJ hapJ; have gS := HB.out.size
 have ob6_b34 : B6 < B34 := by have := qb6; omega
 have gb34 : w.heap.size ≤ B34 := by omega
 have ob6_b8 : B6 < B8 := by have := qb6; omega
 have gb8 : w.heap.size ≤ B8 := by omega
 have ob34_b8 : B34 ≠ B8 := by omega
 have hgB : g ≠ B8 := fun e => by subst e; have h1 := kb8'.cell 0 rfl; have h2 := kg'.cell 0 rfl; rw [h1] at h2; cases h2
 have hg2B : g2 ≠ B8 := fun e => by subst e; have h1 := kb8'.cell 0 rfl; obtain ⟨b9, o9, h3, _, h2⟩ := RdInts.ne kg2 ht0; cases h3; simp only [Nat.zero_add] at h2; rw [h1] at h2; cases h2
 have oB6g : B6 < g := by have := kb6.1; omega
 have oB6g2 : B6 < g2 := by have := kb6.1; omega
 have gg : w.heap.size ≤ g := by omega
 clear gl8 gr8 ha33 hb33 kc33 ha36 hb36 kc36 ap33_34 ap33_36 ap33_40 ap33_8 ap34_36 ap34_40 ap34_8 ap36_40 ap36_8 ap40_8; clear qb6; replace kb6 := kb6.at hb12; replace HB := bE HB hb12; clear hb12; have qb6 := kb6.1; have kb34 := kb34'; clear kb34'; have qb34 := kb34.1; have kb8 := kb8'; clear kb8'; have qb8 := kb8.1; clear qb34 kb34; have kg := kg'; clear kg'; have qg := kg.1; obtain ⟨cb8_0, cb8_1, cb8_2, cb8_3, cb8_4, cb8_5, cb8_6, cb8_7⟩ := cl8 kb8; have zb8 := kb8.2.2; refine pl ?_; refine listF_absw (fun w14 hw' => ?_); have kb8' := cells_of hw' (Cells.set (i := 7) (Cells.set (i := 6) (Cells.set (i := 5) (Cells.set (i := 4) (Cells.set (i := 3) (Cells.set (i := 2) (Cells.set (i := 1) (Cells.set (i := 0) (kb8)))))))))
 (try simp only [stC, mC, tC, List.set_cons_zero, List.set_cons_succ] at kb8')
 have hb15 : OldB [B8] w11 w14 := oldsetN hw'; clear hw'; clear cb8_0 cb8_1 cb8_2 cb8_3 cb8_4 cb8_5 cb8_6 cb8_7 zb8; clear qb6 qb8 qg; replace kb8 := kb8'; replace kb6 := kb6.oB hb15; replace kg := kg.oB hb15; replace kg2 := Rd.oldB kg2 hb15 (fun b hb => by cases hb; simp; omega); replace HB := mO HB hb15; clear hb15; have qb6 := kb6.1; have qb8 := kb8.1; have qg := kg.1; clear kb8'; refine lsa fun s16 z' => ?_; replace sl0 := slg z' sl0; replace sl6 := slg z' sl6; replace sl8 := slg z' sl8; clear z' sl33 sl34 sl36 sl40; refine lsn ?_
 repeat ((fail_if_success refine stp ?_); go_step)
 refine region_F ?_; refine pl ?_; refine lsa fun s17 z' => ?_; replace sl0 := slg z' sl0; replace sl6 := slg z' sl6; replace sl8 := slg z' sl8; have sl9 := gu 9 z'; clear z'; refine lsn ?_
 repeat ((fail_if_success refine stp ?_); go_step)
 have hc0_0 := hid sl0; have hc0_6 := hid sl6; have hc0_8 := hid sl8; refine loop_F (n := 56) (fun kJ sJ wJ => ∃ (i : Nat), kJ = l.length - i ∧ sJ 9 = .int .i64 (i : Int) ∧ sJ 0 = s17 0 ∧ sJ 6 = s17 6 ∧ sJ 8 = s17 8 ∧ OldB [g] w14 wJ ∧ Cells wJ g ((begL l i).flatMap int1) ∧ i ≤ l.length) ⟨0, rfl, (by first | exact sl9 | (rw [sl9]; go_num) | (rw [sl9]; rfl)), rfl, rfl, rfl, OldB.refl _ _, (by have e : begL l 0 = List.replicate 128 0 := (by simp [begL]); rw [e]; exact kg), Nat.zero_le _⟩ ?_; clear sl9; rintro kJ s18 w19 ⟨i, rfl, sl9, e0, e6, e8, hb20, mg', hil⟩; replace sl0 := e0.trans sl0; clear e0; replace sl6 := e6.trans sl6; clear e6; replace sl8 := e8.trans sl8; clear e8; have hoJ := hb20; clear qb6 qb8 qg; replace kg := mg'; replace kb6 := kb6.oB hb20; replace kb8 := kb8.oB hb20; replace kg2 := Rd.oldB kg2 hb20 (fun b hb => by cases hb; simp; omega)
 replace HB := mO HB hb20; clear hb20; have qb6 := kb6.1; have qb8 := kb8.1; have qg := kg.1; clear mg'; have HoJ := hid hoJ; clear hoJ; have HL21 := HoJ; clear HoJ
 repeat ((fail_if_success refine stp ?_); go_step)
 refine region_F ?_
 iterate 4 refine pl ?_
 refine lsa fun s22 z' => ?_; replace sl0 := slg z' sl0; replace sl6 := slg z' sl6; replace sl8 := slg z' sl8; replace sl9 := slg z' sl9; have sl44 := gu 44 z'; clear z'; refine lsn ?_
 repeat ((fail_if_success refine stp ?_); go_step)
 refine cond_E sl44 (by decide) ?_ ?_ <;> (clear sl44; intro h44 sl44)
 ·skip
  have hi : i < l.length := by simpa using h44
  have hii : (i : Int) < l.length := by omega
  obtain ⟨bl, ol, hal, hbl, -⟩ := RdInts.ne HR.out hi; subst hal; obtain ⟨x, hx⟩ : ∃ x, l[i] = x := ⟨_, rfl⟩; have d0 := rd_at1 (Rd.oldB HR.out HB.out (by simp)) hi hx
  have nbl : ¬ bl = g := by omega
  have hbw : bl < w19.heap.size := by have := HB.out.size; omega
  have Hx := hid hx
  have hig : i < (begL l i).length := by rw [begL_len hil hl]; omega
  have hi8 : (i : Int) < 128 := by omega
  clear hx
  repeat ((fail_if_success refine stp ?_); go_step)
  obtain ⟨cb6_0, cb6_1, cb6_2, cb6_3, cb6_4, cb6_5, cb6_6, cb6_7⟩ := cl8 kb6; obtain ⟨cb8_0, cb8_1, cb8_2, cb8_3, cb8_4, cb8_5, cb8_6, cb8_7⟩ := cl8 kb8
  have nb6_g : ¬ B6 = g := by omega
  have nb8_g : ¬ B8 = g := by omega
  refine regionR_F [g] [((begL l i).flatMap int1)] [9] [.q [], .q [], .q [], .q [], .q [], .q [], .q [], .q [], .st 9] [?v17_0, ?v17_1, ?v17_2, ?v17_3, ?v17_4, ?v17_5, ?v17_6, ?v17_7, fun _ => undef] [fun _ => [], fun _ => [], fun _ => [], fun _ => [], fun _ => [], fun _ => [], fun _ => [], fun _ => [], ?c17_8] (by kernel_rfl) (by kernel_rfl) (by kernel_rfl) (by kernel_rfl) (by kernel_rfl) (by first | exact List.nodup_nil | exact List.nodup_singleton _ | (simp; done) | (simp; omega)) (bc_cons (by repeat (first | (with_reducible exact kg) | (with_reducible refine Cells.drew ?_) | (with_reducible refine Cells.up ?_ _) | (with_reducible refine Cells.setFar ?_ (by omega)))) bc_nil) ?walk17 ?dep17
  case walk17 =>
   iterate 8 refine rq ?_
   refine walkR_st (by rfl) (fun X hX wq hwq hkq => ?_) ?_
   · rw [show X 9 = g from hX.at0 0 _ rfl] at hkq ⊢
     replace hkq : Cells wq g (((begL l i).flatMap int1)) := hkq; have hks := hkq.1; have hkz := hkq.2.2; have f0 := ints_cell hkq hig; go_simp
     (first | ((with_reducible refine writeB_mk (Cells.set hkq) ?_ ?_); (focus (repeat (first | (with_reducible exact Only.refl _ _) | (with_reducible refine Only.set ?_)))); rfl))
   refine walkR_nil (fun X hX w23 hwz hcz => ?_); have kz0 := hcz 9 (by simp); rw [show X 9 = g from hX.at0 0 _ rfl] at kz0
   simp only [updC_some, updC_none, Nat.reduceEqDiff, ↓reduceIte] at kz0
   clear hX hcz
   (try clear X)
   clear nb6_g nb8_g; have hb24 := hwz.unDrew; clear hwz
   (try simp only [stC, mC, tC, List.set_cons_zero, List.set_cons_succ] at kz0)
   clear cb6_0 cb6_1 cb6_2 cb6_3 cb6_4 cb6_5 cb6_6 cb6_7 cb8_0 cb8_1 cb8_2 cb8_3 cb8_4 cb8_5 cb8_6 cb8_7; clear qb6 qb8 qg; replace kg := kz0; replace kb6 := kb6.oB hb24; replace kb8 := kb8.oB hb24; replace kg2 := Rd.oldB kg2 hb24 (fun b hb => by cases hb; simp; omega); replace HL21 := mO HL21 hb24; replace HB := mO HB hb24; clear hb24; have qb6 := kb6.1; have qb8 := kb8.1; have qg := kg.1; clear kz0; rw [ints_set, begL_set hi hl Hx.out] at kg; refine lsa fun s25 z' => ?_; replace sl0 := slg z' sl0; replace sl6 := slg z' sl6; replace sl8 := slg z' sl8; replace sl9 := slg z' sl9; clear z' sl44; refine lsn ?_
   repeat ((fail_if_success refine stp ?_); go_step)
   refine region_F ?_
   iterate 3 refine pl ?_
   refine lsa fun s26 z' => ?_; replace sl0 := slg z' sl0; replace sl6 := slg z' sl6; replace sl8 := slg z' sl8; replace sl9 := gu 9 z'; clear z'; refine lsn ?_
   repeat ((fail_if_success refine stp ?_); go_step)
   refine ⟨_, _, rfl, ?_, i + 1, rfl, (rL sl9), (sl0.trans hc0_0.out.symm), (sl6.trans hc0_6.out.symm), (sl8.trans hc0_8.out.symm), HL21.out, (by first | (with_reducible exact kg) | (apply Cells.conv; (focus (exact kg)); (first | rfl | (simp; done)))), by omega⟩
   omega
  case dep17 =>
    iterate 9 refine dR ?_
    exact depR_nil
 ·skip
  have hi : i = l.length := by have h := h44; simp at h; omega
  repeat ((fail_if_success refine stp ?_); go_step)
  clear HL21; clear hc0_0 hc0_6 hc0_8; refine region_F ?_; obtain ⟨cb8_0, cb8_1, cb8_2, cb8_3, cb8_4, cb8_5, cb8_6, cb8_7⟩ := cl8 kb8; refine pl ?_; obtain ⟨cb6_0, cb6_1, cb6_2, cb6_3, cb6_4, cb6_5, cb6_6, cb6_7⟩ := cl8 kb6; have zb6 := kb6.2.2; refine pl ?_; refine listF_absw (fun w27 hw' => ?_); have kb6' := cells_of hw' (Cells.set (i := 7) (Cells.set (i := 6) (Cells.set (i := 5) (Cells.set (i := 4) (Cells.set (i := 3) (Cells.set (i := 2) (Cells.set (i := 1) (Cells.set (i := 0) (kb6)))))))))
  (try simp only [stC, mC, tC, List.set_cons_zero, List.set_cons_succ] at kb6')
  have hb28 : OldB [B6] w19 w27 := oldsetN hw'; clear hw'; clear cb6_0 cb6_1 cb6_2 cb6_3 cb6_4 cb6_5 cb6_6 cb6_7 cb8_0 cb8_1 cb8_2 cb8_3 cb8_4 cb8_5 cb8_6 cb8_7 zb6; clear qb6 qb8 qg; replace kb6 := kb6'; replace kb8 := kb8.oB hb28; replace kg := kg.oB hb28; replace kg2 := Rd.oldB kg2 hb28 (fun b hb => by cases hb; simp; omega); replace HB := mO HB hb28; clear hb28; have qb6 := kb6.1; have qb8 := kb8.1; have qg := kg.1; clear kb6'; refine pl ?_; refine lsa fun s29 z' => ?_; replace sl6 := slg z' sl6; have sl7 := gu 7 z'; clear z' sl0 sl8 sl9 sl44; refine lsn ?_
  repeat ((fail_if_success refine stp ?_); go_step)
  obtain ⟨cb6_0, cb6_1, cb6_2, cb6_3, cb6_4, cb6_5, cb6_6, cb6_7⟩ := cl8 kb6; refine ret_F _ (res_ct Tryz.results70 ((getD_F (by decide)).trans sl6) (load_t24 cb6_0 cb6_1 cb6_2 cb6_3 cb6_4 cb6_5 cb6_6 cb6_7) ((getD_F (by decide)).trans sl7)) ?_
  have hfin : begL l i = (beginS l tp n).store := by rw [hi]; simp [begL, beginS]
  rw [hfin] at kg; exact ⟨⟨some ⟨g, 0, none⟩, 128, some ⟨g2, 0, none⟩, c2, none, 0⟩, by simp [beginS]; omega, ⟨Cells.rd (f := int1) (m := 1) (fun _ => rfl) kg, kg2, .inl rfl⟩, (fun k hk => ⟨fun _ b hb => by cases hb; show g ≠ k; omega, fun _ b hb => by cases hb; show g2 ≠ k; omega, fun h => absurd rfl h⟩), HB.out.toBelow⟩
end

section
open Go.RowKit


abbrev Flt.cs (f : Flt) : List Value := [.int .i64 f.done, .int .i64 f.addr, .int .i64 f.mask]
abbrev RdFl := Rd Flt.cs 3
theorem RdFl.ne {w : World} {a : Option Addr} {l : List Flt} (h : RdFl w a l) {k : Nat} (hk : k < l.length) :
    ∃ b off, a = some ⟨b, off, none⟩ ∧ b < w.heap.size ∧ w.cell? ⟨b, off + k * 3, none⟩ = some (.int .i64 l[k].done) ∧ w.cell? ⟨b, off + k * 3 + 1, none⟩ = some (.int .i64 l[k].addr) ∧ w.cell? ⟨b, off + k * 3 + 2, none⟩ = some (.int .i64 l[k].mask) := by
  obtain ⟨b, off, ha, hb, hc⟩ := Rd.ne h hk; exact ⟨b, off, ha, hb, hc 0 _ rfl, hc 1 _ rfl, hc 2 _ rfl⟩
def err0 (s : St4) (fs : List Flt) : Int := if (chk4 s).2.2 ≠ 0 then (chk4 s).2.2 else if 10 < fs.length then 3 else 0
def errU (s : St4) (fs : List Flt) (i : Nat) : Int := if err0 s fs ≠ 0 then err0 s fs else flErr (fs.take i)
theorem flErr_snoc (fs : List Flt) (f : Flt) : flErr (fs ++ [f]) = if flErr fs ≠ 0 then flErr fs else fErr f := by
  unfold flErr; rw [List.find?_append]
  cases h : fs.find? (fun f => fErr f != 0) with
  | none =>
    simp
    cases h2 : (fErr f != 0) <;> simp at h2 <;> simp [h2]
  | some y =>
    have h1 := List.find?_some h
    simp at h1
    simp [h1]
theorem errU_0 {s : St4} {fs : List Flt} : errU s fs 0 = err0 s fs := by unfold errU; split <;> simp_all [flErr]
theorem errU_succ {s : St4} {fs : List Flt} {i : Nat} (h : i < fs.length) {y : Flt} (hy : fs[i] = y) (h0 : errU s fs i = 0) : errU s fs (i + 1) = fErr y := by
  subst hy; unfold errU at *
  split at h0
  · rename_i h1; exact absurd h0 h1
  · rename_i h1
    rw [if_neg h1, List.take_succ_eq_append_getElem h, flErr_snoc, if_neg (by omega)]
theorem errU_stay {s : St4} {fs : List Flt} : ∀ {k i : Nat}, errU s fs i ≠ 0 → i + k ≤ fs.length → errU s fs (i + k) = errU s fs i
  | 0, _, _, _ => rfl
  | k + 1, i, h, hl => by
    have ih := errU_stay (k := k) h (by omega)
    by_cases h1 : err0 s fs ≠ 0
    · unfold errU; rw [if_pos h1, if_pos h1]
    · rw [show i + (k + 1) = (i + k) + 1 by omega]
      have h2 : flErr (fs.take (i + k)) = errU s fs i := by rw [← ih]; unfold errU; rw [if_neg h1]
      unfold errU; rw [if_neg h1, List.take_succ_eq_append_getElem (by omega), flErr_snoc, h2, if_pos h, if_neg h1]; unfold errU; rw [if_neg h1]
theorem ask_errU {s : St4} {fs : List Flt} {most : Int} : askErr12 s fs most = if errU s fs fs.length ≠ 0 then errU s fs fs.length else if inI most 0 1000 = false then 7 else 0 := by
  unfold askErr12 errU err0; rw [List.take_length]
  by_cases h1 : (chk4 s).2.2 ≠ 0
  · rw [if_pos h1, if_pos h1, if_pos h1, if_pos h1]
  · rw [if_neg h1, if_neg h1]
    by_cases h2 : 10 < fs.length
    · rw [if_pos h2, if_pos h2]; rfl
    · rw [if_neg h2, if_neg h2]; simp
end

section
open Go.RowKit


theorem hitS_len (n : Int) : ∀ (fs : List Flt) (st : List Int), (hitS fs n st).length = st.length := by
  suffices h : ∀ (gs : List Flt) (st : List Int), (gs.foldl (fun st f => st.set f.addr.toNat (xorI (st.getD f.addr.toNat 0) f.mask)) st).length = st.length from fun fs st => h _ _
  intro gs
  induction gs with
  | nil => intro st; rfl
  | cons f gs ih => intro st; rw [List.foldl_cons, ih, List.length_set]
end

section
open Go.RowKit


theorem RdSt.oldK {w w' : World} {s : St4} {A : SA} {k : Nat} (h : RdSt w s A) (hf : A.free s k) (ho : OldB [k] w w') : RdSt w' s A := by
  have go : ∀ {a : Option Addr} {l : List Int}, RdInts w a l → (l ≠ [] → ∀ b, a = some b → b.block ≠ k) → RdInts w' a l := by
    intro a l h1 h2
    by_cases e : l = []
    · exact .inl e
    · exact Rd.oldB h1 ho (fun b hb => by simp; exact h2 e b hb)
  exact ⟨go h.st hf.1, go h.tp hf.2.1, go h.pr hf.2.2⟩
theorem RdSt.freeB {w : World} {s : St4} {A : SA} {k : Nat} (h : RdSt w s A) (hk : w.heap.size ≤ k) : A.free s k := by
  have go : ∀ {a : Option Addr} {l : List Int}, RdInts w a l → l ≠ [] → ∀ b, a = some b → b.block ≠ k := by
    intro a l h1 h2 b hb
    rcases h1 with h1 | ⟨b', off, ha, hlt, _⟩
    · exact absurd h1 h2
    · rw [ha] at hb; cases hb; show b' ≠ k; omega
  exact ⟨go h.st, go h.tp, go h.pr⟩
end


end Go.Proofs.YtleknidlgmmgbaaGreat
