/- General lemmas: as regV, but a step knows, too, that what the operations before it made lies apart. -/
import Derived.Test.YtleknidlgmmgbaaGreattsG13
set_option linter.all false
namespace Go.Proofs.YtleknidlgmmgbaaGreat

open Go.RowKit

section
variable {P : Program} {l : List Oper} {n : Nat} {s : Nat → Value} {w : World}
/-- the first k operations, each in a world of then: what it yields is as V says; lo and hi are the heap's sizes ahead of it and behind it -/
def stepsW (P : Program) (l : List Oper) (n : Nat) (s : Nat → Value) (w : World) (k0 : Nat) (V : Nat → Value → Nat → Nat → World → Prop) : Nat → Nat → List Oper → Prop
  | 0, _, _ => True
  | _ + 1, _, [] => True
  | t + 1, i, o :: os => (∀ (s' : Nat → Value) (w' : World), Below w.heap.size w w' → (∀ t, t < n → (∀ j, j < k0 → dstAt l j ≠ some t) → s' t = s t) → ∀ a b : Nat → Nat, (∀ j, aB (Region.before l.toArray) i j = true → w.heap.size ≤ a j ∧ b j ≤ w'.heap.size ∧ ∀ d, dstAt l j = some d → V j (s' d) (a j) (b j) w') → (∀ j q, aB (Region.before l.toArray) i j = true → aB (Region.before l.toArray) i q = true → j ≠ q → b j ≤ a q ∨ b q ≤ a j) →
      if Region.wanted o (yielded l.toArray (tmA n s')) then opF P o n s' w' (fun v w'' => V i v w'.heap.size w''.heap.size w'' ∧ Below w'.heap.size w' w'') else V i undef w'.heap.size w'.heap.size w') ∧ stepsW P l n s w k0 V t (i + 1) os
theorem stepsW_get {k0 : Nat} {V : Nat → Value → Nat → Nat → World → Prop} : ∀ (t i : Nat) (os : List Oper), stepsW P l n s w k0 V t i os → ∀ j o, j < t → os[j]? = some o → (∀ (s' : Nat → Value) (w' : World), Below w.heap.size w w' → (∀ t, t < n → (∀ j, j < k0 → dstAt l j ≠ some t) → s' t = s t) → ∀ a b : Nat → Nat, (∀ q, aB (Region.before l.toArray) (i + j) q = true → w.heap.size ≤ a q ∧ b q ≤ w'.heap.size ∧ ∀ d, dstAt l q = some d → V q (s' d) (a q) (b q) w') → (∀ q r, aB (Region.before l.toArray) (i + j) q = true → aB (Region.before l.toArray) (i + j) r = true → q ≠ r → b q ≤ a r ∨ b r ≤ a q) →
      if Region.wanted o (yielded l.toArray (tmA n s')) then opF P o n s' w' (fun v w'' => V (i + j) v w'.heap.size w''.heap.size w'' ∧ Below w'.heap.size w' w'') else V (i + j) undef w'.heap.size w'.heap.size w')
  | 0, _, _, _, j, _, hj, _ => absurd hj (Nat.not_lt_zero _)
  | t + 1, i, [], _, j, o, _, ho => by simp at ho
  | t + 1, i, o' :: os, h, 0, o, _, ho => by
    simp at ho; subst ho; exact h.1
  | t + 1, i, o' :: os, h, j + 1, o, hj, ho => by
    have := stepsW_get t (i + 1) os h.2 j o (by omega) (by simpa using ho)
    rw [show i + 1 + j = i + (j + 1) by omega] at this
    exact this
theorem regionW_core {K : (Nat → Value) → World → Prop} (k : Nat) (V : Nat → Value → Nat → Nat → World → Prop) (hchk : chkR l (List.replicate k (.q [])) 0 = true)
    (hV : ∀ i v a b w w', V i v a b w → Below w.heap.size w w' → V i v a b w') (hcg : ∀ s s' w, (∀ t, t < n → s t = s' t) → K s w → K s' w)
    (hs : stepsW P l n s w k V k 0 l)
    (ht : ∀ s' w' (a b : Nat → Nat), Below w.heap.size w w' → (∀ t, t < n → (∀ j, j < k → dstAt l j ≠ some t) → s' t = s t) → (∀ i, i < k → w.heap.size ≤ a i ∧ a i ≤ b i ∧ b i ≤ w'.heap.size ∧ ∀ d, dstAt l i = some d → V i (s' d) (a i) (b i) w') → (∀ i j, i < k → j < k → i ≠ j → b i ≤ a j ∨ b j ≤ a i) → listF P l.toArray n K (l.drop k) s' w') :
    ∃ J : (Nat → Bool) → (Nat → Value) → World → Prop, J (fun _ => false) (fun d => if d < n then s d else undef) w.drew ∧ (∀ s w, J (fun j => decide (j < l.length)) s w → K s w) ∧ invF P l.toArray n J 0 l := by
  have hc := chk_of hchk
  have hkl : k ≤ l.length := by have := hc.le; simpa using this
  have fin : ∀ {L : Nat → Bool} {s' : Nat → Value} {w' : World}, JV l n k s w V L s' w' → (∀ j, j < k → L j = true) → J2 P l n k K L s' w' := by
    intro L s' w' h hL
    obtain ⟨a, b, h1, h2⟩ := h.vs
    refine ⟨k, Nat.le_refl _, hkl, fun j => ?_, s', fun _ _ => rfl, ht s' w' a b h.b h.un (fun i hi => h1 i (hL i hi)) (fun i j hi hj => h2 i j (hL i hi) (hL j hj))⟩
    by_cases hj : j < k
    · rw [hL j hj]; simp [hj]
    · cases hl : L j with
      | false => simp [hj]
      | true => exact absurd (h.lo j hl) hj
  let J : (Nat → Bool) → (Nat → Value) → World → Prop := fun L s' w' => JV l n k s w V L s' w' ∨ J2 P l n k K L s' w'
  have hstep2 : ∀ (i : Nat) (o : Oper) (L : Nat → Bool) (s' : Nat → Value) (w' : World), l[i]? = some o → L i = false → (∀ j, j < i → L j = true) → J2 P l n k K L s' w' → ∀ Kv : Value → World → Prop, (∀ v w1, J (upd L i) (updS s' o.dst v) w1 → Kv v w1) → if Region.wanted o (yielded l.toArray (tmA n s')) then opF P o n s' w' Kv else Kv undef w' := by
    intro i o L s' w' ho hL hlow ⟨k1, hk1, hk2, hk3, s2, hs2, hl2⟩ Kv hK
    have hik : i = k1 := by
      have h1 := hk3 i
      rw [hL] at h1
      have : ¬ i < k1 := by simpa using h1.symm
      rcases Nat.lt_or_ge k1 i with h2 | h2
      · have := hlow k1 h2
        rw [hk3 k1] at this; simp at this
      · omega
    subst hik
    have hil : i < l.length := (List.getElem?_eq_some_iff.1 ho).1
    rw [List.drop_eq_getElem_cons hil] at hl2
    have e : l[i] = o := by rw [List.getElem?_eq_getElem hil] at ho; exact Option.some.inj ho
    rw [e] at hl2
    refine listF_congr hs2 Kv (fun v w1 h => hK v w1 (.inr ⟨i + 1, by omega, by omega, fun j => ?_, updS s2 o.dst v, upd_agree hs2 _ _, h⟩)) hl2
    by_cases hj : j = i
    · subst hj; simp [upd]
    · rw [upd_ne hj, hk3 j]
      by_cases h : j < i
      · simp [h]; omega
      · simp [h]; omega
  refine ⟨J, .inl ⟨(Below.refl _ _).drew, fun _ _ h => (by cases h), fun _ h => (by cases h), fun t ht _ => if_pos ht, ⟨fun _ => 0, fun _ => 0, fun _ h => (by cases h), fun _ _ h => (by cases h)⟩⟩, ?_, invF_of l 0 ?_⟩
  · intro s' w' hJ
    have hend : J2 P l n k K (fun j => decide (j < l.length)) s' w' := by
      rcases hJ with hJ | hJ
      · exact fin hJ fun j hj => by simp; omega
      · exact hJ
    obtain ⟨k1, hk1, hk2, hk3, s2, hs2, hl2⟩ := hend
    have : k1 = l.length := by
      have h1 := hk3 k1
      simp only [Nat.lt_irrefl, decide_false, decide_eq_false_iff_not] at h1
      omega
    subst this
    rw [List.drop_length] at hl2
    exact hcg _ _ _ (fun t ht => (hs2 t ht).symm) hl2
  · intro i o ho L s' w' hL hd hJ Kv hK
    rw [Nat.zero_add] at hL
    simp only [Nat.zero_add] at hK
    have hil : i < l.length := (List.getElem?_eq_some_iff.1 ho).1
    have hrk : (List.replicate k (OK.q [])).length = k := List.length_replicate
    by_cases him : i < k
    · rcases hJ with hJ | hJ
      · obtain ⟨a, b, h1, h2⟩ := hJ.vs
        have hanc : ∀ j, aB (Region.before l.toArray) i j = true → L j = true := by
          intro j ha
          obtain ⟨e, he, hb', hor⟩ := hc.anc i j o ho ha
          rcases hor with rfl | hor
          · exact hd e he hb'
          · have hon := hd e he hb'
            exact hJ.cl e.on j hon (Nat.lt_of_lt_of_le (hJ.lo _ hon) hkl) hor
        have hg := stepsW_get k 0 l hs i o him ho s' w' hJ.b hJ.un a b (fun j hj => by rw [Nat.zero_add] at hj; obtain ⟨g1, g2, g3, g4⟩ := h1 j (hanc j hj); exact ⟨g1, g3, g4⟩) (fun j q hj hq hne => by rw [Nat.zero_add] at hj hq; exact h2 j q (hanc j hj) (hanc q hq) hne)
        rw [Nat.zero_add] at hg
        have done : ∀ v w'', V i v w'.heap.size w''.heap.size w'' → Below w'.heap.size w' w'' → JV l n k s w V (upd L i) (updS s' o.dst v) w'' := by
          intro v w'' hv hb
          have hne : ∀ j, L j = true → j ≠ i := fun j hj e => by rw [e, hL] at hj; cases hj
          have hoth : ∀ j d, L j = true → dstAt l j = some d → updS s' o.dst v d = s' d := by
            intro j d hj hdj
            cases hod : o.dst with
            | none => rfl
            | some di =>
              rw [updS_some, if_neg]
              intro e
              have h3 : dstAt l i = some di := by simp [dstAt, ho, hod]
              exact hne j hj (hc.dst j i d (by rw [hrk]; exact hJ.lo j hj) (by rw [hrk]; exact him) hdj (by rw [h3, e]))
          refine ⟨hJ.b.trans (hb.mono hJ.b.size), ?_, ?_, ?_, fun q => if q = i then w'.heap.size else a q, fun q => if q = i then w''.heap.size else b q, ?_, ?_⟩
          · intro q j hq hql ha
            by_cases e : q = i
            · subst e
              have h3 := hanc j ha
              rw [upd_ne (hne j h3)]; exact h3
            · rw [upd_ne e] at hq
              have h3 := hJ.cl q j hq hql ha
              rw [upd_ne (hne j h3)]; exact h3
          · intro q hq
            by_cases e : q = i
            · subst e; exact him
            · rw [upd_ne e] at hq; exact hJ.lo q hq
          · intro t ht hn
            rw [← hJ.un t ht hn]
            cases hod : o.dst with
            | none => rfl
            | some di => rw [updS_some, if_neg]; intro e; exact hn i him (by simp [dstAt, ho, hod, e])
          · intro q hq
            by_cases e : q = i
            · subst e
              simp only [if_pos]
              refine ⟨hJ.b.size, hb.size, Nat.le_refl _, fun d hdd => ?_⟩
              have h3 : o.dst = some d := by simpa [dstAt, ho] using hdd
              rw [h3, updS_some, if_pos rfl]; exact hv
            · rw [upd_ne e] at hq
              simp only [if_neg e]
              obtain ⟨g1, g2, g3, g4⟩ := h1 q hq
              refine ⟨g1, g2, Nat.le_trans g3 hb.size, fun d hdd => ?_⟩
              rw [hoth q d hq hdd]; exact hV _ _ _ _ _ _ (g4 d hdd) hb
          · intro q j hq hj hqj
            by_cases e : q = i
            · have e2 : ¬ j = i := fun h => hqj (e.trans h.symm)
              rw [upd_ne e2] at hj
              simp only [if_pos e, if_neg e2]
              exact .inr (h1 j hj).2.2.1
            · rw [upd_ne e] at hq
              by_cases e2 : j = i
              · simp only [if_neg e, if_pos e2]
                exact .inl (h1 q hq).2.2.1
              · rw [upd_ne e2] at hj
                simp only [if_neg e, if_neg e2]
                exact h2 q j hq hj hqj
        split
        · rename_i hw
          rw [if_pos hw] at hg
          exact uponF.mono (fun v w'' h => hK v w'' (.inl (done v w'' h.1 h.2))) hg
        · rename_i hw
          rw [if_neg hw] at hg
          exact hK _ _ (.inl (done _ _ hg (Below.refl _ _)))
      · obtain ⟨k1, hk1, _, hk3, _⟩ := hJ
        rw [hk3 i] at hL
        simp at hL; omega
    · rcases hJ with hJ | hJ
      · have hlow : ∀ j, j < i → L j = true := by
          intro j hj
          have ha := hc.tail i j hil (by rw [hrk]; omega) hj
          obtain ⟨e, he, hb', hor⟩ := hc.anc i j o ho ha
          rcases hor with rfl | hor
          · exact hd e he hb'
          · have hon := hd e he hb'
            exact hJ.cl e.on j hon (Nat.lt_of_lt_of_le (hJ.lo _ hon) hkl) hor
        exact hstep2 i o L s' w' ho hL hlow (fin hJ fun j hj => hlow j (by omega)) Kv hK
      · have hJ' := hJ
        obtain ⟨k1, hk1, hk2, hk3, _⟩ := hJ'
        have hlow : ∀ j, j < i → L j = true := by
          intro j hj
          have ha := hc.tail i j hil (by rw [hrk]; omega) hj
          obtain ⟨e, he, hb', hor⟩ := hc.anc i j o ho ha
          have hon := hd e he hb'
          rcases hor with rfl | hor
          · exact hon
          · rw [hk3] at hon ⊢
            simp only [decide_eq_true_eq] at hon ⊢
            have := hc.lt e.on j (by omega) hor
            omega
        exact hstep2 i o L s' w' ho hL hlow hJ Kv hK
theorem regionW_F {id : Nat} {ds : List Deferred} {Q : Exit → Act → World → Prop} (k : Nat) (V : Nat → Value → Nat → Nat → World → Prop) (hm : P.follows .mixedOrders = true) (hb : backB l.toArray = true) (hd : dstB l.toArray (List.range n) = true)
    (hchk : chkR l (List.replicate k (.q [])) 0 = true)
    (hV : ∀ i v a b w w', V i v a b w → Below w.heap.size w w' → V i v a b w')
    (hs : stepsW P l n s w k V k 0 l)
    (ht : ∀ s' w' (a b : Nat → Nat), Below w.heap.size w w' → (∀ t, t < n → (∀ j, j < k → dstAt l j ≠ some t) → s' t = s t) → (∀ i, i < k → w.heap.size ≤ a i ∧ a i ≤ b i ∧ b i ≤ w'.heap.size ∧ ∀ d, dstAt l i = some d → V i (s' d) (a i) (b i) w') → (∀ i j, i < k → j < k → i ≠ j → b i ≤ a j ∨ b j ≤ a i) → listF P l.toArray n (fun s w => Q .normal (mkA n s ds) w) (l.drop k) s' w') :
    (Code.region id l.toArray true).wp P Q (mkA n s ds) w := by
  obtain ⟨J, h0, he, hi⟩ := regionW_core (K := fun s w => Q .normal (mkA n s ds) w) k V hchk hV (fun s s' w h hk => by rw [← mkA_congr h]; exact hk) hs ht
  exact regionI_F J hm hb hd h0 he hi
theorem regW {id : Nat} {ds : List Deferred} {Q : Exit → Act → World → Prop} (k : Nat) (ps : List PrV) (hm : P.follows .mixedOrders = true) (hb : backB l.toArray = true) (hd : dstB l.toArray (List.range n) = true)
    (hchk : chkR l (List.replicate k (.q [])) 0 = true) (hV : monoV ps) (hs : stepsW P l n s w k (atV ps) k 0 l)
    (ht : ∀ s' w' (a b : Nat → Nat), Below w.heap.size w w' → (∀ t, t < n → (∀ j, j < k → dstAt l j ≠ some t) → s' t = s t) → (∀ i, i < k → w.heap.size ≤ a i ∧ a i ≤ b i ∧ b i ≤ w'.heap.size ∧ ∀ d, dstAt l i = some d → atV ps i (s' d) (a i) (b i) w') → (∀ i j, i < k → j < k → i ≠ j → b i ≤ a j ∨ b j ≤ a i) → listF P l.toArray n (fun s w => Q .normal (mkA n s ds) w) (l.drop k) s' w') :
    (Code.region id l.toArray true).wp P Q (mkA n s ds) w := regionW_F k (atV ps) hm hb hd hchk (monoV_at hV) hs ht
end

section
variable {α : Type} {f : α → List Value} {m : Nat} {P : Program} {o : Oper} {n d : Nat} {s : Nat → Value} {w : World} {K' : Value → World → Prop}
/-- append to an empty slice without room: a new block -/
theorem opF_app0 (hd : o.dst = some d) (hn : d < n) (x y : Operand) (t : TypeId) (ho : o.op = .call { callee := .builtin .append, args := #[x, y], argTypes := #[t, t] })
    (e : TypeId) (i : TypeInfo) (z : Value) (bytes : Nat) (ht : P.underlying t = some (.slice e)) (hi : P.info? e = some i) (hz : i.zero = some z) (hsize : i.size = m) (hby : i.bytes = bytes)
    (hf : ∀ x, (f x).length = m) (g : Nat) (l2 : List α) (b off : Nat) (c : Nat) (hx : evF n s x = .slice (some ⟨g, 0, none⟩) 0 0) (hy : evF n s y = .slice (some ⟨b, off, none⟩) l2.length c) (hrd : Rd f m w (some ⟨b, off, none⟩) l2)
    (h0 : 0 < l2.length) (h63 : l2.length ≤ 9223372036854775807) (hbytes : l2.length * bytes ≤ 281474976710656)
    (h : ∀ B c' w', w.heap.size ≤ B → B < w'.heap.size → Rd f m w' (some ⟨B, 0, none⟩) l2 → Below w.heap.size w w' → K' (.slice (some ⟨B, 0, none⟩) l2.length c') w') : opF P o n s w K' := by
  have hfl : (l2.flatMap f).length = l2.length * m := by
    clear h0 h63 hbytes hrd hy h
    induction l2 with
    | nil => simp
    | cons x l ih => simp only [List.flatMap_cons, List.length_append, hf, ih, List.length_cons, Nat.add_mul]; omega
  rcases hrd with h9 | ⟨b', off', ha, hlt, hc⟩
  · rw [h9] at h0; simp at h0
  cases ha
  have hr := run_append_grow (P := P) w t o.type e i z ht hi hz ⟨g, 0, none⟩ 0 0 [] (by simp) (fun j v hj => by simp at hj) ⟨b, off, none⟩ l2.length c (l2.flatMap f) (by rw [hfl, hsize]) (Rd.flatAt hf hc) (by omega) (by omega)
    (by rw [nextslicecap_zero (by omega), hby]; simpa using hbytes)
  refine opF_of_wp hd hn (fun K Q hK => ?_)
  unfold Oper.wp execOp
  simp only [ho, resolve, invoke, builtin, Sem.run_bind, Sem.run_pure, Result.andThen_ok, List.map_toArray, List.map_cons, List.map_nil, mkA_eval, hx, hy, hr]
  refine hK _ _ ?_
  rw [Nat.zero_add]
  refine h _ _ _ (Nat.le_refl _) (by simp) ?_ ((Below.refl _ _).drew.alloc (by simp) _)
  have hC := Cells.newL (w := w.drew) (l := l2.flatMap f ++ (Builtin.zeroCells z.cells (grownCap w l2.length 0 e - l2.length)).toList) (T := e)
  have e9 : (l2.flatMap f ++ (Builtin.zeroCells z.cells (grownCap w l2.length 0 e - l2.length)).toList).toArray = #[] ++ (l2.flatMap f).toArray ++ Builtin.zeroCells z.cells (grownCap w l2.length 0 e - l2.length) := by simp
  rw [e9] at hC
  refine .inr ⟨_, 0, rfl, by simp, fun i y hy j v hv => ?_⟩
  have h9 := hC.2.1 (i * m + j) v (by rw [List.getElem?_append_left (by
    have := (List.getElem?_eq_some_iff.1 (flat_get f m hf l2 i y hy j v hv)).1; exact this)]; exact flat_get f m hf l2 i y hy j v hv)
  simpa using h9
end

end Go.Proofs.YtleknidlgmmgbaaGreat
