/- The greatest values of the events of a path: plain Lean. -/
import Derived.Test.YtigehmghcafblaaGreatlzG6
import Derived.Deep.DeepAppendWide
import Derived.Maps.OwnSet
import Derived.Test.YtigehmghcafblaaGreatlzN5
set_option linter.all false
namespace Go.Proofs.YtigehmghcafblaaGreat

section
set_option linter.all false
open Go.RowKit

section
variable {P : Program} (w : World)
theorem run_append_atw (base : Nat) (t ty e : TypeId) (i : TypeInfo) (z : Value) (size bytes : Nat) (ht : P.underlying t = some (.slice e)) (hi : P.info? e = some i) (hz : i.zero = some z)
    (hsize : i.size = size) (hby : i.bytes = bytes) (hzs : z.cells.size = size) (hsz : 0 < size) (v : Value) (n : Nat) (xs : List Value) (hown : w.ownsRow base e size v n xs)
    (a : Addr) (m c : Nat) (news : List Value) (hl : news.length = m * size) (hnews : ∀ j u, news[j]? = some u → w.cell? (a.add j) = some u) (h1 : ∀ u ∈ news, u.oneCell' = true)
    (h63 : n + m ≤ maxLen) (hbytes : ((n + m) + (n + m) / 4 + 192) * bytes ≤ 281474976710656) (hbase : base ≤ w.heap.size) :
    ∃ v' w', (Builtin.append_ #[t, t] ty #[v, .slice (some a) m c]).run P w = .ok v' w' ∧ w'.ownsRow base e size v' (n + m) (xs ++ news) ∧ w.grownBy w' v.ownBlock ∧ (v'.ownBlock = v.ownBlock ∨ v'.ownBlock = some w.heap.size) := by
  obtain ⟨v', w', hr, h2, h3, _⟩ := run_append_own_wide (P := P) w base t ty e i z size bytes ht hi hz hsize hby hzs hsz v n xs hown a m c news hl hnews h1 h63 hbytes hbase
  refine ⟨v', w', hr, h2, h3, ?_⟩
  subst hsize
  subst hby
  have hsmall : n + m ≤ 9223372036854775807 := by simp only [maxLen] at h63; omega
  rcases hown.2 with ⟨rfl, rfl⟩ | ⟨g, cap, cur, rfl, hbg, hg, hnc, hcm, hcs, htake⟩
  · by_cases hm : m = 0
    · subst hm
      have hn : news = [] := List.eq_nil_of_length_eq_zero (by simpa using hl)
      subst hn
      have : (Builtin.append_ #[t, t] ty #[.slice none 0 0, .slice (some a) 0 c]).run P w = .ok (.slice none 0 0) w := by
        simp [Builtin.append_, run_underlying ht, sizeOf, typeInfo, hi, Builtin.lenOf, Builtin.firstCells, loadCells, loadCellsFrom]
      rw [this] at hr
      cases hr
      exact .inl rfl
    · have hx : xs = [] := List.eq_nil_of_length_eq_zero (by simpa using hown.1)
      have h := run_append_nil (P := P) w t ty e i z ht hi hz a m c news hl hnews (by omega) (by omega) (by have hb := hbytes; simp only [Nat.zero_add] at hb; exact Nat.le_trans (Nat.mul_le_mul_right _ (by omega)) hb)
      rw [h] at hr
      cases hr
      exact .inr rfl
  · by_cases hroom : n + m ≤ cap
    · obtain ⟨w2, h, _, _⟩ := run_append_fits (P := P) w base t ty e i i.size ht hi rfl g n cap xs hown a m c news hl hnews h1 hroom
      rw [h] at hr
      cases hr
      exact .inl rfl
    · have holds : ∀ j u, xs[j]? = some u → w.cell? ((⟨g, 0, none⟩ : Addr).add j) = some u := hown.cells (g := g) rfl
      have h := run_append_grow (P := P) w t ty e i z ht hi hz ⟨g, 0, none⟩ n cap xs hown.1 holds a m c news hl hnews (by omega) (by omega) (growslice_fits_wide (by omega) hbytes)
      rw [h] at hr
      cases hr
      exact .inr rfl
end

section
variable {P : Program} {o : Oper} {n d : Nat} {s : Nat → Value} {w : World} {K' : Value → World → Prop} {α : Type} {f : α → List Value} {m : Nat}
/-- append(v, l...): v the call's own -/
theorem opF_appw (hd : o.dst = some d) (hn : d < n) (x y : Operand) (t : TypeId) (ho : o.op = .call { callee := .builtin .append, args := #[x, y], argTypes := #[t, t] })
    (e : TypeId) (i : TypeInfo) (z : Value) (bytes : Nat) (ht : P.underlying t = some (.slice e)) (hi : P.info? e = some i) (hz : i.zero = some z) (hsize : i.size = m) (hby : i.bytes = bytes) (hzs : z.cells.size = m) (hsz : 0 < m)
    (hf : ∀ x, (f x).length = m) (hone : ∀ x, ∀ u ∈ f x, u.oneCell' = true) (base : Nat) (v : Value) (l l2 : List α) (a : Option Addr) (c : Nat) (hx : evF n s x = v) (hy : evF n s y = .slice a l2.length c) (hown : Own f m e base w v l) (hrd : Rd f m w a l2)
    (h63 : l.length + l2.length ≤ maxLen) (hbytes : ((l.length + l2.length) + (l.length + l2.length) / 4 + 192) * bytes ≤ 281474976710656) (hbase : base ≤ w.heap.size)
    (h : ∀ v' w', Own f m e base w' v' (l ++ l2) → w.grownBy w' v.ownBlock → (v'.ownBlock = v.ownBlock ∨ v'.ownBlock = some w.heap.size) → K' v' w') : opF P o n s w K' := by
  have hfl : ∀ l : List α, (l.flatMap f).length = l.length * m := by
    intro l
    induction l with
    | nil => simp
    | cons x l ih => simp only [List.flatMap_cons, List.length_append, hf, ih, List.length_cons, Nat.add_mul]; omega
  have fin : ∀ v' w', w'.ownsRow base e m v' (l.length + l2.length) (l.flatMap f ++ l2.flatMap f) → Own f m e base w' v' (l ++ l2) := by
    intro v' w' h2
    unfold Own
    rw [List.length_append, List.flatMap_append]; exact h2
  have key : ∃ v' w', (Builtin.append_ #[t, t] o.type #[v, .slice a l2.length c]).run P w = .ok v' w' ∧ Own f m e base w' v' (l ++ l2) ∧ w.grownBy w' v.ownBlock ∧ (v'.ownBlock = v.ownBlock ∨ v'.ownBlock = some w.heap.size) := by
    rcases hrd with rfl | ⟨b, off, rfl, hlt, hc⟩
    · cases a with
      | none =>
        refine ⟨v, w, run_append_none w base t o.type e i m ht hi v l.length (l.flatMap f) hown c, by simpa using hown, ⟨rfl, rfl, rfl, Nat.le_refl _, fun _ _ _ => rfl⟩, .inl rfl⟩
      | some ad =>
        obtain ⟨v', w', hr, h2, h3, h4⟩ := run_append_atw (P := P) w base t o.type e i z m bytes ht hi hz hsize hby hzs hsz v l.length (l.flatMap f) hown ad 0 c [] (by simp) (fun j u hj => by simp at hj) (fun u hu => by simp at hu) (by simpa using h63) (by simpa using hbytes) hbase
        exact ⟨v', w', by simpa using hr, fin _ _ (by simpa using h2), h3, h4⟩
    · obtain ⟨v', w', hr, h2, h3, h4⟩ := run_append_atw (P := P) w base t o.type e i z m bytes ht hi hz hsize hby hzs hsz v l.length (l.flatMap f) hown ⟨b, off, none⟩ l2.length c (l2.flatMap f) (hfl l2) (Rd.flatAt hf hc)
        (fun u hu => by obtain ⟨x, _, hux⟩ := List.mem_flatMap.1 hu; exact hone x u hux) h63 hbytes hbase
      exact ⟨v', w', hr, fin _ _ h2, h3, h4⟩
  obtain ⟨v', w', hr, h2, h3, h4⟩ := key
  refine opF_of_wp hd hn (fun K Q hK => ?_)
  unfold Oper.wp execOp
  simp only [ho, resolve, invoke, builtin, Sem.run_bind, Sem.run_pure, Result.andThen_ok, List.map_toArray, List.map_cons, List.map_nil, mkA_eval, hx, hy, hr]
  exact hK _ _ (h v' w' h2 h3 h4)

end
end

section
set_option linter.all false
open Go.RowKit

abbrev rawR : Value → Option (DataW Value × List MemPlace) := fun v => some (.held v, [])
section
variable {P : Program} {κ : Type} [DecidableEq κ]
/-- block b is a map of at most n entries; at the key of x lies g x -/
def MapV (P : Program) (kt : TypeId) (kv : κ → Value) (w : World) (b n : Nat) (g : κ → Option Value) : Prop :=
  ∃ D : DataW Value, w.ownsMap P kt rawR b n D ∧ Maps.IsMap D ∧ ∀ x kl, keyOf P kt (kv x) = some kl → ∀ zd, D.atKey kl zd = (match g x with | some v => .held v | none => zd)
variable {kt T E : TypeId} {kv : κ → Value} {w w' : World} {b n : Nat} {g : κ → Option Value}
theorem MapV.made (w : World) : MapV P kt kv (w.alloc (.map #[] 0)) w.heap.size 0 (fun _ => none) :=
  ⟨_, World.ownsMap_made _ _ _ _, ⟨_, rfl⟩, fun _ _ _ _ => rfl⟩
theorem MapV.lt (h : MapV P kt kv w b n g) : b < w.heap.size := by obtain ⟨D, h1, _⟩ := h; exact h1.lt
theorem MapV.same (h : MapV P kt kv w b n g) (hb : w'.heap[b]? = w.heap[b]?) : MapV P kt kv w' b n g := by
  obtain ⟨D, ⟨es, clock, h1, h2⟩, h3⟩ := h
  exact ⟨D, ⟨es, clock, hb.trans h1, h2⟩, h3⟩
theorem MapV.at (h : MapV P kt kv w b n g) (hb : Below w.heap.size w w') : MapV P kt kv w' b n g := h.same (hb.block b h.lt)
theorem MapV.oldB {Bs : List Nat} (h : MapV P kt kv w b n g) (ho : OldB Bs w w') (hb : b ∉ Bs) : MapV P kt kv w' b n g := h.same (ho.block b h.lt hb)
theorem MapV.grown (h : MapV P kt kv w b n g) {v : Value} (hg : w.grownBy w' v.ownBlock) (hv : v.ownBlock ≠ some b) : MapV P kt kv w' b n g := h.same (hg.block b h.lt (fun e => hv e.symm))
theorem MapV.mono (h : MapV P kt kv w b n g) {m : Nat} (hm : n ≤ m) : MapV P kt kv w b m g := by
  obtain ⟨D, h1, h3⟩ := h
  exact ⟨D, h1.mono hm, h3⟩
theorem MapV.has (h : MapV P kt kv w b n g) (K : Maps.Keyed P kt) (ht : P.underlying T = some (.map kt E)) {z : Value} (hz : (zeroValue E).run P w = .ok z w) {x : κ} {kl : Lit} (hk : keyOf P kt (kv x) = some kl) (c : Bool) :
    (Instr.lookup T (.map (some b)) (kv x) c).run P w = .ok (if c then .tuple #[(g x).getD z, .bool (g x).isSome] else (g x).getD z) w := by
  obtain ⟨D, h1, _, h3⟩ := h
  have h4 := h3 x kl hk
  have e1 : ∀ {v : Value} {ps : List MemPlace}, rawR v = some (D.atKey kl (.held z), ps) → v = (g x).getD z := by
    intro v ps hv
    have hv' := congrArg (fun o => o.map Prod.fst) hv
    simp only [rawR, Option.map_some, h4, Option.some.injEq] at hv'
    cases hg : g x with
    | none => rw [hg] at hv'; simpa using hv'
    | some y => rw [hg] at hv'; simpa using hv'
  cases c with
  | false =>
    obtain ⟨v, ps, hr, hv⟩ := h1.lookup K ht hz (zd := .held z) (zp := []) rfl hk
    rw [hr, e1 hv]; rfl
  | true =>
    obtain ⟨v, ps, hr, hv⟩ := h1.look_ok K ht hz (zd := .held z) (zp := []) rfl hk
    have e2 : Maps.has D kl = (g x).isSome := by
      cases hg : g x with
      | none => rw [hg] at h4; exact Maps.has_false_of_atKey h4
      | some y => rw [hg] at h4; exact Maps.has_true_of_atKey h4
    rw [hr, e1 hv, e2]; rfl
theorem MapV.put (h : MapV P kt kv w b n g) (K : Maps.Keyed P kt) (ht : P.underlying T = some (.map kt E)) (hn : n < 9223372036854775807) (hinj : ∀ x y : κ, kv x = kv y → x = y) {x : κ} {kl : Lit} (hk : keyOf P kt (kv x) = some kl) (v : Value) :
    ∃ w', (Instr.mapUpdate T (.map (some b)) (kv x) v).run P w = .ok () w' ∧ MapV P kt kv w' b (n + 1) (fun y => if y = x then some v else g y) ∧ OldB [b] w w' := by
  obtain ⟨D, h1, h2, h3⟩ := h
  obtain ⟨w', hr, ho, hg⟩ := h1.update K ht (show n < maxLen by unfold maxLen; omega) hk (d := .held v) (ps := []) (val := v) rfl
  refine ⟨w', hr, ⟨_, ho, h2.put _ _, ?_⟩, ⟨hg.os, hg.tape, hg.output, hg.size, fun k hk hn => hg.block k hk (fun e => hn (by simpa using e))⟩⟩
  intro y kl' hk' zd
  simp only
  by_cases e : y = x
  · subst e
    rw [hk] at hk'; cases hk'
    simp only [if_pos]; rw [Maps.atKey_put_same h2 (K.key hk)]
  · simp only [if_neg e]; rw [Maps.atKey_put_other (fun e2 => e (hinj _ _ (K.inj (by rw [hk', e2]) hk)))]
    exact h3 y kl' hk' zd
end

section
variable {P : Program} {o : Oper} {n d : Nat} {s : Nat → Value} {w : World} {K' : Value → World → Prop} {κ : Type} [DecidableEq κ] {kt T E : TypeId} {kv : κ → Value} {b k : Nat} {g : κ → Option Value}
theorem opF_look (hd : o.dst = some d) (hn : d < n) (m y : Operand) (c : Bool) (ho : o.op = .lookup T m y c) (K : Maps.Keyed P kt) (ht : P.underlying T = some (.map kt E)) {z : Value} (hz : (zeroValue E).run P w = .ok z w) (h : MapV P kt kv w b k g)
    (x : κ) (hm : evF n s m = .map (some b)) (hy : evF n s y = kv x) {kl : Lit} (hk : keyOf P kt (kv x) = some kl) (hK : K' (if c then .tuple #[(g x).getD z, .bool (g x).isSome] else (g x).getD z) w) : opF P o n s w K' := by
  refine opF_of_wp hd hn (fun K1 Q hK1 => ?_)
  unfold Oper.wp execOp
  simp only [ho, Sem.run_bind, Sem.run_pure, Result.andThen_ok, mkA_eval, hm, hy, h.has K ht hz hk c]
  exact hK1 _ _ hK
theorem opF_makeMap (hd : o.dst = some d) (hn : d < n) (ho : o.op = .makeMap T none)
    (hK : ∀ w', MapV P kt kv w' w.heap.size 0 (fun _ => none) → Below w.heap.size w w' → K' (.map (some w.heap.size)) w') : opF P o n s w K' := by
  refine opF_of_wp hd hn (fun K1 Q hK1 => ?_)
  unfold Oper.wp execOp
  simp only [ho, Option.map_none, Sem.run_bind, run_makeMap, Sem.run_pure, Result.andThen_ok]
  exact hK1 _ _ (hK _ (MapV.made w) (below_alloc1 _ _))
theorem opF_put (m y v : Operand) (ho : o.op = .mapUpdate T m y v) (K : Maps.Keyed P kt) (ht : P.underlying T = some (.map kt E)) (h : MapV P kt kv w b k g) (hk9 : k < 9223372036854775807) (hinj : ∀ x y : κ, kv x = kv y → x = y)
    (x : κ) (hm : evF n s m = .map (some b)) (hy : evF n s y = kv x) {kl : Lit} (hk : keyOf P kt (kv x) = some kl)
    (hK : ∀ w', MapV P kt kv w' b (k + 1) (fun y => if y = x then some (evF n s v) else g y) → OldB [b] w w' → K' undef w') : opF P o n s w K' := by
  obtain ⟨w', hr, h1, h2⟩ := h.put K ht hk9 hinj hk (evF n s v)
  unfold opF execOp
  simp only [ho, hm, hy, Sem.run_bind, Sem.run_pure, hr, Result.andThen_ok]
  exact hK w' h1 h2
end

/-- a range over a function of ours; rounds may return -/
theorem wp_range_r {P : Program} {α : Type} {g : Operand} {ps : Array Tmp} {assign body : Code} {Q : Exit → Act → World → Prop} {a : Act} {w : World} {gf : Nat} {lb : Array Value} (enc : α → Array Value)
    (hg : a.eval g = .func (.func gf) #[] lb) (eg : ∀ args w, (callFunc gf args).run P w = .ok (.enter gf args) w) (hps : ∀ x, (enc x).size = ps.size)
    (J : List α → World → Prop) (M : List α → α → World → Prop) (Fin : List α → Prop) (Dn : World → Prop)
    (hJ : ∀ pre W r r', J pre W → LoopAt W w.heap.size r → J pre (W.putObj (w.heap.size + 1) (.loop r')))
    (hD : ∀ W r r', Dn W → LoopAt W w.heap.size r → Dn (W.putObj (w.heap.size + 1) (.loop r')))
    (h0 : ∀ r, J [] ((w.alloc (.deferred (some []))).alloc (.loop r)))
    (hiter : ∀ (r r' : Loop) (W : World), J [] W → LoopAt W w.heap.size r →
      (∀ pre x W1, M pre x W1 → LoopAt W1 w.heap.size r → YieldAt Fence.wide 0 P (w.heap.size + 1) (enc x) W1 fun e W' => (e = .returned (.bool true) ∧ J (pre ++ [x]) W' ∧ LoopAt W' w.heap.size r) ∨ (e = .returned (.bool false) ∧ Dn W' ∧ LoopAt W' w.heap.size r')) →
      Calls P gf (#[.func (.yield (w.heap.size + 1)) #[] #[]] ++ lb) W fun e W' => (∃ v, e = .returned v) ∧ ((∃ xs, J xs W' ∧ Fin xs ∧ LoopAt W' w.heap.size r) ∨ (Dn W' ∧ LoopAt W' w.heap.size r')))
    (hround : ∀ pre x W r, M pre x W → LoopAt W w.heap.size r →
      assign.wpIn (Fence.wide.inRound (w.heap.size + 1)) 0 P (Exit.then (fun a₁ W₁ => LoopAt W₁ w.heap.size r ∧ ∀ r', body.wpIn (Fence.wide.inRound (w.heap.size + 1)) 0 P (fun e _ W' => (e = .normal ∧ J (pre ++ [x]) W' ∨ e = .ret ∧ Dn W') ∧ LoopAt W' w.heap.size r') a₁ (W₁.putObj (w.heap.size + 1) (.loop r'))) (fun _ _ _ => False))
        { tmps := (ps.zip (enc x)).foldl (fun t (p, v) => t.setIfInBounds p v) a.tmps, defers := [] } W)
    (hdone : ∀ xs W, J xs W → Fin xs → W.heap[w.heap.size]? = some (.deferred (some [])) → Q .normal { a with defers := { target := .collected w.heap.size, args := #[] } :: a.defers } W)
    (hleave : ∀ W, Dn W → W.heap[w.heap.size]? = some (.deferred (some [])) → Q .ret { a with defers := { target := .collected w.heap.size, args := #[] } :: a.defers } W) :
    (Code.rangeFunc g ps assign body).wp P Q a w := by
  refine (wpIn_wide (n := 0)).1 (wpIn_rangeFunc ?_)
  intro fn hfn
  let rec0 : Loop := { state := .ready, pending := none, fn := fn, tmps := a.tmps, params := ps, assign := assign, body := body, defers := w.heap.size }
  let recD : Loop := { rec0 with state := .done, pending := some .ret }
  let W1 : World := (w.alloc (.deferred (some []))).alloc (.loop rec0)
  have hL1 : LoopAt W1 w.heap.size rec0 := by
    refine ⟨?_, ?_⟩
    · have := World.alloc_heap_new (w.alloc (.deferred (some []))) (.loop rec0)
      rwa [World.size_alloc] at this
    · exact (Below.heap_alloc _ _ _ (by simp)).trans (World.alloc_heap_new w _)
  refine ⟨w.heap.size + 1, [{ target := .collected w.heap.size, args := #[] }], W1, { target := .fn (.func gf) lb, args := #[.func (.yield (w.heap.size + 1)) #[] #[]] }, W1, gf,
    #[.func (.yield (w.heap.size + 1)) #[] #[]] ++ lb, W1, run_enterLoop_outer _ _ _ _ _, ?_, fun _ _ => trivial, ?_, fun h => (by simp [Fence.wide] at h), ?_⟩
  · simp only [resolve, hg]
    simp [go_sem]
  · simp [invoke, go_sem, eg]
  · refine callsIn_wide.2 ((hiter rec0 recD W1 (h0 rec0) hL1 ?_).mono ?_)
    · intro pre x W hm hl
      refine ⟨fn, _, assign, body, run_yield (P := P) (args := enc x) hl.1 (by show _ = ps.size; exact hps x), roundIn_of_wpIn trivial ?_⟩
      refine wpIn_mono (hround pre x W rec0 hm hl) ?_
      intro e a1 W2 h
      cases e with
      | normal =>
        obtain ⟨hl2, hb⟩ := h
        refine ⟨_, run_beginRound hl2.1 rfl, wpIn_mono (hb _) ?_⟩
        rintro e a3 W3 ⟨⟨rfl, hj3⟩ | ⟨rfl, hd3⟩, hl3⟩
        · exact ⟨_, _, run_endRound none hl3.1, .inl ⟨rfl, hJ _ _ _ _ hj3 hl3, hl3.put⟩⟩
        · exact ⟨_, _, run_endRound (some .ret) hl3.1, .inr ⟨rfl, hD _ _ _ hd3 hl3, hl3.put⟩⟩
      | exit id => exact h
      | goto t => exact h
      | ret => exact h
      | panic ch => exact h
      | outgrown => exact h
    · rintro e W2 ⟨⟨v, rfl⟩, ⟨xs, hj, hf, hl⟩ | ⟨hd, hl⟩⟩
      · exact ⟨none, _, run_endLoop (P := P) hl.1 (by show LoopState.ready ≠ LoopState.busy; decide), hdone xs _ (hJ _ _ _ _ hj hl) hf ((World.putObj_heap_other (by omega)).trans hl.2)⟩
      · refine ⟨some .ret, _, run_endLoop (P := P) hl.1 (by show LoopState.done ≠ LoopState.busy; decide), ?_⟩
        exact wpIn_ret (hleave _ (hD _ _ _ hd hl) ((World.putObj_heap_other (by omega)).trans hl.2))

theorem yield_mono {F : Fence} {m : Nat} {P : Program} {l : Nat} {args : Array Value} {W : World} {R R' : Ending → World → Prop} (h : YieldAt F m P l args W R) (hr : ∀ e w, R e w → R' e w) : YieldAt F m P l args W R' := by
  obtain ⟨fn, tmps, assign, body, h1, h2⟩ := h
  exact ⟨fn, tmps, assign, body, h1, RoundIn.mono h2 hr⟩
theorem LoopAt.oldB {W W' : World} {l : Nat} {r : Loop} {Bs : List Nat} (h : LoopAt W l r) (ho : OldB Bs W W') (hb : ∀ b ∈ Bs, b ≠ l ∧ b ≠ l + 1) : LoopAt W' l r :=
  ⟨(ho.block _ (Array.getElem?_eq_some_iff.1 h.1).1 (fun hm => (hb _ hm).2 rfl)).trans h.1, (ho.block _ (Array.getElem?_eq_some_iff.1 h.2).1 (fun hm => (hb _ hm).1 rfl)).trans h.2⟩
theorem wpIn_abs {P : Program} {F : Fence} {m n : Nat} {c : Code} {Q : Exit → Act → World → Prop} {ds : List Deferred} {S : Nat → Value} {w : World} (h : ∀ s', s' = S → c.wpIn F m P Q (mkA n s' ds) w) : c.wpIn F m P Q (mkA n S ds) w := h S rfl
theorem callQ {P : Program} {f : FuncId} {args : Array Value} {w0 w : World} {v : Value} (h : Calls P f args w fun e w' => e = .returned v ∧ Below w.heap.size w w') (hb : Below w0.heap.size w0 w) : Calls P f args w fun e w'' => e = .returned v ∧ Below w0.heap.size w0 w'' :=
  h.mono fun _ _ h => ⟨h.1, hb.trans (h.2.mono hb.size)⟩
theorem callQs {P : Program} {f : FuncId} {args : Array Value} {w0 w : World} {v : Value} (h : Calls P f args w fun e w' => e = .returned v ∧ w = w') (hb : Below w0.heap.size w0 w) : Calls P f args w fun e w'' => e = .returned v ∧ Below w0.heap.size w0 w'' :=
  h.mono fun _ _ h => ⟨h.1, by rw [← h.2]; exact hb⟩
theorem listQ_abs {P : Program} {ops : Array Oper} {n : Nat} {C : World → Prop} {K : (Nat → Value) → Prop} {S : Nat → Value} (h : ∀ s', s' = S → listQ P ops n C K [] s') : listQ P ops n C K [] S := h S rfl
theorem oldB_grown {w w' : World} {row : Option Nat} {Bs : List Nat} (hg : w.grownBy w' row) (hr : ∀ g, row = some g → g ∈ Bs) : OldB Bs w w' :=
  ⟨hg.os, hg.tape, hg.output, hg.size, fun k hk hn => hg.block k hk (fun e => hn (hr k e.symm))⟩
theorem Rd.oldN {α : Type} {f : α → List Value} {m : Nat} {w w' : World} {Bs : List Nat} {a : Option Addr} {l : List α} (h : Rd f m w a l) (ho : OldB Bs w w') (hn : l ≠ [] → ∀ b, a = some b → b.block ∉ Bs) : Rd f m w' a l := by
  by_cases e : l = []
  · exact .inl e
  · exact Rd.oldB h ho (hn e)
theorem hmf (fn : Fn) (first cap : Array Value) (w : World) : (Instr.makeFunc fn first cap).run Tryz.prog w = .ok (.func fn first cap) w := rfl
end

section
set_option linter.all false
open Go.RowKit

section
variable {ds : List Deferred}
theorem cond_EI {P : Program} {m t : Nat} {F : Fence} {x y : Code} {n : Nat} {Q : Exit → Act → World → Prop} {s : Nat → Value} {w : World} {E : Bool} (hc : s t = .bool E) (ht : t < n)
    (h1 : E = true → s t = .bool true → x.wpIn F m P Q (mkA n s ds) w) (h2 : E = false → s t = .bool false → y.wpIn F m P Q (mkA n s ds) w) : (Code.cond (.tmp t) x y).wpIn F m P Q (mkA n s ds) w := by
  cases E with
  | true => exact wpIn_cond (t := true) (by rw [mkA_eval]; simp [evF, ht, hc]) (by simpa using h1 rfl hc)
  | false => exact wpIn_cond (t := false) (by rw [mkA_eval]; simp [evF, ht, hc]) (by simpa using h2 rfl hc)
theorem cond_tI {P : Program} {m : Nat} {F : Fence} {c : Operand} {x y : Code} {n : Nat} {Q : Exit → Act → World → Prop} {s : Nat → Value} {w : World} (h : x.wpIn F m P Q (mkA n s ds) w) (hc : evF n s c = .bool true := by go_simp; done) : (Code.cond c x y).wpIn F m P Q (mkA n s ds) w :=
  wpIn_cond (t := true) (by rw [mkA_eval]; exact hc) (by simpa using h)
theorem cond_fI {P : Program} {m : Nat} {F : Fence} {c : Operand} {x y : Code} {n : Nat} {Q : Exit → Act → World → Prop} {s : Nat → Value} {w : World} (h : y.wpIn F m P Q (mkA n s ds) w) (hc : evF n s c = .bool false := by go_simp; done) : (Code.cond c x y).wpIn F m P Q (mkA n s ds) w :=
  wpIn_cond (t := false) (by rw [mkA_eval]; exact hc) (by simpa using h)
theorem then_n {K : Act → World → Prop} {Q : Exit → Act → World → Prop} {a : Act} {w : World} (h : K a w) : Exit.then K Q .normal a w := h
theorem then_x {K : Act → World → Prop} {Q : Exit → Act → World → Prop} {a : Act} {w : World} {id : Nat} (h : Q (.exit id) a w) : Exit.then K Q (.exit id) a w := h
theorem then_r {K : Act → World → Prop} {Q : Exit → Act → World → Prop} {a : Act} {w : World} (h : Q .ret a w) : Exit.then K Q .ret a w := h
theorem inB_n {id : Nat} {Q : Exit → Act → World → Prop} {a : Act} {w : World} (h : Q .normal a w) : Exit.inBlock id Q .normal a w := h
theorem inB_x {id : Nat} {Q : Exit → Act → World → Prop} {a : Act} {w : World} (h : Q .normal a w) : Exit.inBlock id Q (.exit id) a w := by simp [Exit.inBlock, h]
theorem inB_r {id : Nat} {Q : Exit → Act → World → Prop} {a : Act} {w : World} (h : Q .ret a w) : Exit.inBlock id Q .ret a w := h
theorem out_then {K : Act → World → Prop} {Q : Exit → Act → World → Prop} (h : ¬ LetsOut Q) : ¬ LetsOut (Exit.then K Q) := fun ⟨a, w, hz⟩ => h ⟨a, w, hz⟩
theorem out_inB {id : Nat} {Q : Exit → Act → World → Prop} (h : ¬ LetsOut Q) : ¬ LetsOut (Exit.inBlock id Q) := fun ⟨a, w, hz⟩ => h ⟨a, w, hz⟩
end

section
variable {ds : List Deferred}
variable {P : Program} {l : List Oper} {n : Nat} {w0 : World} {Bs rs : List Nat} {K : (Nat → Value) → World → Prop} {ks : List OK} {vs : List (Ad → Value)} {cs : List (Ad → List Value)} {s0 : Nat → Value} {d0 : Nat → List Value}
theorem regionR_FI {m : Nat} {ρ : Option Nat} {id : Nat} {Q : Exit → Act → World → Prop} {s : Nat → Value} {w : World} (Bs : List Nat) (bc : List (List Value)) (rs : List Nat) (ks : List OK) (vs : List (Ad → Value)) (cs : List (Ad → List Value))
    (hm : P.follows .mixedOrders = true) (hb : backB l.toArray = true) (hdn : dstB l.toArray (List.range n) = true) (hchk : chkR l ks Bs.length = true) (hrs : rsOk ks l.length Bs.length rs = true)
    (hN : Bs.Nodup) (hB : ∀ k b, Bs[k]? = some b → Cells w b (bc.getD k []))
    (hw : walkR P ks l.toArray n w.drew Bs rs (fun s w => Q .normal (mkA n s ds) w) 0 l ks vs cs (fun _ => s) (fun _ r => bc.getD (r - l.length) []))
    (hdep : depR l.length (Region.before l.toArray) 0 vs cs) (hq : ¬ LetsOut Q) (hnd : noDefer l = true) : (Code.region id l.toArray true).wpIn (Fw ρ) m P Q (mkA n s ds) w := by
  have hc := chk_of hchk
  have hBl : ∀ b ∈ Bs, b < w.drew.heap.size := by
    intro b hb
    obtain ⟨k, hk, rfl⟩ := List.mem_iff_getElem.1 hb
    exact (hB k Bs[k] (by simp [hk])).1
  obtain ⟨g1, g2⟩ := walkR_get (l := l) (ks := ks) (vs := vs) (cs := cs) (s0 := s) (d0 := fun r => bc.getD (r - l.length) []) (kk := ks) ks.length 0 (by omega) hw
  let J : (Nat → Bool) → (Nat → Value) → World → Prop := fun L s' w' => (∃ X, J1 l n w.drew Bs ks vs cs s (fun r => bc.getD (r - l.length) []) X L s' w') ∨ J2 P l n ks.length (fun s w => Q .normal (mkA n s ds) w) L s' w'
  have hstep2 : ∀ (i : Nat) (o : Oper) (L : Nat → Bool) (s' : Nat → Value) (w' : World), l[i]? = some o → L i = false → (∀ j, j < i → L j = true) → J2 P l n ks.length (fun s w => Q .normal (mkA n s ds) w) L s' w' → ∀ Kv : Value → World → Prop, (∀ v w1, J (upd L i) (updS s' o.dst v) w1 → Kv v w1) → if Region.wanted o (yielded l.toArray (tmA n s')) then opF P o n s' w' Kv else Kv undef w' := by
    intro i o L s' w' ho hL hlow ⟨k, hk1, hk2, hk3, s2, hs2, hl2⟩ Kv hK
    have hik : i = k := by
      have h1 := hk3 i
      rw [hL] at h1
      have : ¬ i < k := by simpa using h1.symm
      rcases Nat.lt_or_ge k i with h2 | h2
      · have := hlow k h2
        rw [hk3 k] at this; simp at this
      · omega
    subst hik
    have hil : i < l.length := (List.getElem?_eq_some_iff.1 ho).1
    rw [List.drop_eq_getElem_cons hil] at hl2
    have e : l[i] = o := by rw [List.getElem?_eq_getElem hil] at ho; exact Option.some.inj ho
    rw [e] at hl2
    refine listF_congr hs2 Kv (fun v w1 h => hK v w1 (.inr ⟨i + 1, by omega, by omega, fun j => ?_, updS s2 o.dst v, upd_agree hs2 _ _, h⟩)) hl2
    by_cases hj : j = i
    · subst hj; simp [upd]
    · rw [upd_ne hj, hk3 j]
      by_cases h : j < i
      · simp [h]; omega
      · simp [h]; omega
  refine regionI_FI J hq hnd hm hb hdn ?_ ?_ (invF_of l 0 ?_)
  · -- the start
    let X0 : Ad := fun r => if r < l.length then w.heap.size + r else Bs.getD (r - l.length) 0
    refine .inl ⟨X0, ?_, ⟨rfl, rfl, rfl, Nat.le_refl _, fun _ _ _ => rfl⟩, fun _ h => (by cases h), fun _ _ h => (by cases h), fun _ h => (by cases h), ?_, fun _ _ h => (by cases h), fun d hd _ => if_pos hd⟩
    · refine ⟨fun i hi => ?_, fun i j hi hj hne => ?_, fun k b hk => ?_⟩
      · have := isA_lt hi; have := hc.le
        show w.heap.size ≤ if i < l.length then w.heap.size + i else _
        rw [if_pos (by omega)]; omega
      · have := isA_lt hi; have := isA_lt hj; have := hc.le
        show (if i < l.length then w.heap.size + i else _) ≠ if j < l.length then w.heap.size + j else _
        rw [if_pos (by omega), if_pos (by omega)]; omega
      · show (if l.length + k < l.length then _ else Bs.getD (l.length + k - l.length) 0) = b
        rw [if_neg (by omega), show l.length + k - l.length = k by omega, List.getD_eq_getElem?_getD, hk]; rfl
    · intro r hr
      rcases hr with ⟨h, _⟩ | ⟨h1, h2⟩
      · cases h
      · have hk : r - l.length < Bs.length := by omega
        have e : X0 r = Bs[r - l.length] := by
          show (if r < l.length then _ else Bs.getD (r - l.length) 0) = _
          rw [if_neg (by omega), List.getD_eq_getElem?_getD, List.getElem?_eq_getElem hk]; rfl
        rw [e, cnL_skip (i := 0) ks.length (Nat.zero_le _) fun _ _ _ _ => rfl]
        exact (hB (r - l.length) _ (List.getElem?_eq_getElem hk)).drew
  · -- the end
    intro s' w' hJ
    have hend : J2 P l n ks.length (fun s w => Q .normal (mkA n s ds) w) (fun j => decide (j < l.length)) s' w' := by
      rcases hJ with ⟨X, hJ⟩ | hJ
      · exact hJ.fin hc hrs g2 fun j hj => by have := hc.le; simp; omega
      · exact hJ
    obtain ⟨k, hk1, hk2, hk3, s2, hs2, hl2⟩ := hend
    have : k = l.length := by
      have h1 := hk3 k
      simp only [Nat.lt_irrefl, decide_false, decide_eq_false_iff_not] at h1
      omega
    subst this
    rw [List.drop_length] at hl2
    rw [mkA_congr hs2]
    exact hl2
  · -- an operation
    intro i o ho L s' w' hL hd hJ Kv hK
    rw [Nat.zero_add] at hL
    simp only [Nat.zero_add] at hK
    by_cases him : i < ks.length
    · rcases hJ with ⟨X, hJ⟩ | hJ
      · exact looks_step hc hdep hBl hN (g1 i (Nat.zero_le _) him) hJ ho hL hd Kv fun X v w1 h => hK v w1 (.inl ⟨X, h⟩)
      · obtain ⟨k, hk1, _, hk3, _⟩ := hJ
        rw [hk3 i] at hL
        simp at hL; omega
    · have hil : i < l.length := (List.getElem?_eq_some_iff.1 ho).1
      rcases hJ with ⟨X, hJ⟩ | hJ
      · have hlow : ∀ j, j < i → L j = true := by
          intro j hj
          have ha := hc.tail i j hil (by omega) hj
          obtain ⟨e, he, hb', hor⟩ := hc.anc i j o ho ha
          rcases hor with rfl | hor
          · exact hd e he hb'
          · exact hJ.cl e.on j (hd e he hb') hor
        exact hstep2 i o L s' w' ho hL hlow (hJ.fin hc hrs g2 fun j hj => hlow j (by omega)) Kv hK
      · have hJ' := hJ
        obtain ⟨k, hk1, hk2, hk3, _⟩ := hJ'
        have hlow : ∀ j, j < i → L j = true := by
          intro j hj
          have ha := hc.tail i j hil (by omega) hj
          obtain ⟨e, he, hb', hor⟩ := hc.anc i j o ho ha
          have hon := hd e he hb'
          rcases hor with rfl | hor
          · exact hon
          · rw [hk3] at hon ⊢
            simp only [decide_eq_true_eq] at hon ⊢
            have := hc.lt e.on j (by omega) hor
            omega
        exact hstep2 i o L s' w' ho hL hlow hJ Kv hK
end
end

section
set_option linter.all false
open Go.RowKit

section
variable {P : Program} {n : Nat} {s : Nat → Value} {w : World} {Q : Exit → Act → World → Prop} {ds : List Deferred} {o : Oper}
/-- a call of yield with whatever values -/
theorem yield_inA {ops : Array Oper} {os : List Oper} {l d : Nat} {vs : Array Value} {R : Ending → World → Prop} (hg : o.guard = none) (hd : ∀ c, o.op ≠ .defer c) (hdst : o.dst = some d)
    (hr : (execOp (evF n s) o).run P w = (Instr.yield l vs).run P w) (hy : YieldAt Fence.wide 0 P l vs w R)
    (hk : ∀ e w', R e w' → ∃ x, e = .returned x ∧ wpListIn (Fw none) 0 P ops Q os (mkA n (updS s (some d) x) ds) w') : wpListIn (Fw none) 0 P ops Q (o :: os) (mkA n s ds) w := by
  obtain ⟨fn, tmps, assign, body, h1, h2⟩ := hy
  unfold wpListIn
  rw [if_pos (by simp [Region.wanted, hg])]
  refine ⟨fun _ _ => trivial, ?_⟩
  show o.uponIn (Fw none) 0 P (mkA n s ds) _ Q ((o.semAt none (mkA n s ds).eval).run P w)
  rw [semAt_any hd, mkA_eval, hr, h1, Oper.uponIn_round]
  refine ⟨fun h => (by simp [Fw, Fence.wide] at h), RoundIn.mono (R := R) ?_ ?_⟩
  · exact h2
  · intro e w' hR
    obtain ⟨x, rfl, hx⟩ := hk e w' hR
    show wpListIn (Fw none) 0 P ops Q os ((mkA n s ds).put o.dst x) w'
    rw [hdst, mkA_put]; exact hx
theorem zip2 {α β : Type} (k k2 : α) (v v2 : β) : (#[k, k2].zip #[v, v2]) = #[(k, v), (k2, v2)] := by simp [Array.zip]
theorem foldl2 {α β : Type} (f : β → α → β) (b : β) (x y : α) : Array.foldl f b #[x, y] 0 (#[x, y] : Array α).size = f (f b x) y := by simp
theorem tm_put (n : Nat) (s : Nat → Value) (d : Nat) (v : Value) : (tmA n s).setIfInBounds d v = tmA n (updS s (some d) v) := congrArg Act.tmps (mkA_fold (ds := []) n s d v)
theorem oldB_put {w : World} {k : Nat} {o : Obj} : OldB [k] w (w.putObj k o) := ⟨rfl, rfl, rfl, by rw [World.putObj_size]; exact Nat.le_refl _, fun b _ hn => World.putObj_heap_other (by simpa using hn)⟩
theorem inB_o {id id' : Nat} {Q : Exit → Act → World → Prop} {a : Act} {w : World} (hne : id' ≠ id) (h : Q (.exit id') a w) : Exit.inBlock id Q (.exit id') a w := by
  unfold Exit.inBlock; simp only [hne, if_false]; exact h
end
end

section
set_option linter.all false
open Go.RowKit

section
/-- a range at work: its mark and its loop -/
def En.loop (D : Nat) (r : Loop) : En where
  P S w := S D ∧ S (D + 1) ∧ LoopAt w D r
  mono h hs := ⟨hs _ h.1, hs _ h.2.1, h.2.2⟩
  loc h hs _ := ⟨h.1, h.2.1, (hs _ h.2.1).trans h.2.2.1, (hs _ h.1).trans h.2.2.2⟩
/-- the mark of a range that is done -/
def En.mark (D : Nat) : En where
  P S w := S D ∧ w.heap[D]? = some (.deferred (some []))
  mono h hs := ⟨hs _ h.1, h.2⟩
  loc h hs _ := ⟨h.1, (hs _ h.1).trans h.2⟩
def En.resv (D : Nat) : En where
  P S w := S D ∧ S (D + 1)
  mono h hs := ⟨hs _ h.1, hs _ h.2⟩
  loc h _ _ := h
variable {w0 w : World} {Bs : List Nat} {H : List En} {D : Nat} {r : Loop}
theorem Mem.loopE (h : Mem w0 Bs (.loop D r :: H) w) : LoopAt w D r ∧ Mem w0 Bs (.resv D :: H) w := by
  obtain ⟨h0, S, hS, ⟨s1, s2, hl⟩, hr⟩ := h
  exact ⟨hl, h0, S, hS, ⟨s1, s2⟩, hr⟩
theorem Mem.loopI (h : Mem w0 Bs (.resv D :: H) w) (hl : LoopAt w D r) : Mem w0 Bs (.loop D r :: H) w := by
  obtain ⟨h0, S, hS, ⟨s1, s2⟩, hr⟩ := h
  exact ⟨h0, S, hS, ⟨s1, s2, hl⟩, hr⟩
theorem Mem.markI (h : Mem w0 Bs (.resv D :: H) w) (hl : w.heap[D]? = some (.deferred (some []))) : Mem w0 Bs (.mark D :: H) w := by
  obtain ⟨h0, S, hS, ⟨s1, s2⟩, hr⟩ := h
  exact ⟨h0, S, hS, ⟨s1, hl⟩, hr⟩
theorem Mem.putD (h : Mem w0 Bs (.resv D :: H) w) (o : Obj) : Mem w0 Bs (.resv D :: H) (w.putObj (D + 1) o) := by
  refine h.rep Rep.here fun S hx hlt => ⟨rfl, rfl, rfl, by rw [World.putObj_size]; exact Nat.le_refl _, fun k hk hn => World.putObj_heap_other fun e => hn (e ▸ hx.2), ⟨.inl hx.1, ?_⟩, ⟨.inl hx.2, ?_⟩⟩ <;> rw [World.putObj_size]
  · exact hlt _ hx.1
  · exact hlt _ hx.2
theorem Mem.exI {X : Type} {e : X → En} (x : X) (h : Mem w0 Bs (e x :: H) w) : Mem w0 Bs (.ex e :: H) w := by
  obtain ⟨h0, S, hS, hx, hr⟩ := h
  exact ⟨h0, S, hS, ⟨x, hx⟩, hr⟩
theorem Sep.starI : ∀ (A : List En) {H : List En} (U : Nat → Prop), Sep w (A ++ H) U → Sep w (En.star A :: H) U
  | [], _, U, h => ⟨fun _ => False, fun _ h => h.elim, trivial, h.mono fun b hb => ⟨hb, fun h => h⟩⟩
  | a :: A, H, U, ⟨S, hS, ha, hr⟩ => by
    obtain ⟨S', hS', ha', hr'⟩ := Sep.starI A _ hr
    exact ⟨fun b => S b ∨ S' b, fun b hb => hb.elim (hS b) (fun h => (hS' b h).1), ⟨S, fun b hb => .inl hb, ha, Sep.mono (H := A) ha' (fun b hb => ⟨.inr hb, (hS' b hb).2⟩)⟩, hr'.mono fun b hb => ⟨hb.1.1, fun h => h.elim hb.1.2 hb.2⟩⟩
theorem Mem.starI {A : List En} (h : Mem w0 Bs (A ++ H) w) : Mem w0 Bs (.star A :: H) w := ⟨h.1, Sep.starI A _ h.2⟩
theorem Mem.pureI {p : Prop} (hp : p) (h : Mem w0 Bs H w) : Mem w0 Bs (.pure p :: H) w := by
  obtain ⟨h0, hr⟩ := h
  exact ⟨h0, fun _ => False, fun _ h => h.elim, hp, hr.mono fun b hb => ⟨hb, fun h => h⟩⟩
end

section
variable (w0 : World) (Bs : List Nat) (P : Program)
/-- code within a round of a range -/
structure GoI (ρ : Option Nat) (c : Code) (n : Nat) (L : List (Nat × Value)) (H : List En) (Q : Exit → Act → World → Prop) : Prop where
  go : ∀ g w, Mem w0 Bs H w → c.wpIn (Fw ρ) 0 P Q (mkA n (tab L g) []) w
/-- a round takes x and goes on -/
def Yields {α : Type} (enc : α → Value) (C : List α → En) (D : Nat) (r : Loop) (N : Nat) : Prop := ∀ pre x F w, pre.length < N → Mem w0 Bs (.loop D r :: C pre :: F) w → YieldAt Fence.wide 0 P (D + 1) #[enc x] w (fun e w' => e = .returned (.bool true) ∧ Mem w0 Bs (.loop D r :: C (pre ++ [x]) :: F) w')
def EndR (D : Nat) (r : Loop) (H : List En) : Exit → Act → World → Prop := fun e _ w => (e = .normal ∧ Mem w0 Bs (.resv D :: H) w) ∧ LoopAt w D r
def MidR (D : Nat) (r : Loop) (body : Code) (H : List En) : Exit → Act → World → Prop := Exit.then (fun a w => LoopAt w D r ∧ ∀ r', body.wpIn (Fw (some (D + 1))) 0 P (EndR w0 Bs D r' H) a (w.putObj (D + 1) (.loop r'))) (fun _ _ _ => False)
end
section
variable {w0 : World} {Bs : List Nat} {P : Program} {n : Nat} {L : List (Nat × Value)} {H H' : List En} {Q : Exit → Act → World → Prop} {ρ : Option Nat} {D : Nat} {r : Loop} {body : Code}
theorem gi_reg {id : Nat} {l : List Oper} (h : GoL w0 Bs P l.toArray n (fun s w => Q .normal (mkA n s []) w) l L H) (hd : noDefer l = true := by rfl) : GoI w0 Bs P ρ (.region id l.toArray false) n L H Q := .mk fun g w hw => region_FI hd (h.go g w hw)
theorem gi_mid (h : ∀ r', GoI w0 Bs P (some (D + 1)) body n L (.loop D r' :: H) (EndR w0 Bs D r' H')) : GoX w0 Bs .normal n [] L (.loop D r :: H) (MidR w0 Bs P D r body H') := .mk fun g w hw =>
  ⟨hw.loopE.1, fun r' => (h r').go g _ ((hw.loopE.2.putD _).loopI hw.loopE.1.put)⟩
theorem gi_end {x : Exit} (hx : x = .normal) (h : ∀ w, Mem w0 Bs H w → Mem w0 Bs (.loop D r :: H') w) : GoX w0 Bs x n [] L H (EndR w0 Bs D r H') := .mk fun g w hw =>
  ⟨⟨hx, (h w hw).loopE.2⟩, (h w hw).loopE.1⟩
theorem gi_blk {id : Nat} {c : Code} (h : GoI w0 Bs P ρ c n L H (Exit.inBlock id Q)) : GoI w0 Bs P ρ (.block id c) n L H Q := .mk fun g w hw => wpIn_block (h.go g w hw)
theorem go_range {α : Type} {ds : List Deferred} (N : Nat) (enc : α → Value) (C : List α → En) (F : List En) (xs : List α) {g : Operand} {p : Tmp} {assign body : Code} {gf : Nat} {lb : Array Value}
    (h0 : ∀ w, Mem w0 Bs H w → Mem w0 Bs (C [] :: F) w)
    (hiter : ∀ D r w, Mem w0 Bs (.loop D r :: C [] :: F) w → Yields w0 Bs P enc C D r N → Calls P gf (#[.func (.yield (D + 1)) #[] #[]] ++ lb) w (fun e w' => (∃ v, e = .returned v) ∧ Mem w0 Bs (.loop D r :: C xs :: F) w'))
    (hround : ∀ D r pre x F', pre.length < N → GoI w0 Bs P (some (D + 1)) assign n ((p, enc x) :: L) (.loop D r :: C pre :: F') (MidR w0 Bs P D r body (C (pre ++ [x]) :: F')))
    (hdone : ∀ D, GoX w0 Bs .normal n ({ target := .collected D, args := #[] } :: ds) L (.mark D :: C xs :: F) Q)
    (eg : ∀ args w, (callFunc gf args).run P w = .ok (.enter gf args) w)
    (hg : ∀ s, evF n (tab L s) g = .func (.func gf) #[] lb := by intro g; simp only [evF_tmp, tab_cons, Nat.reduceLT, Nat.reduceEqDiff, ↓reduceIte]; (try rfl)) : GoC w0 Bs P (.rangeFunc g #[p] assign body) n ds L H Q := .mk fun s w hw => by
  let fr : List (α × List En) → List En := fun pre => (pre.getLast?.map (·.2)).getD F
  have hmp : ∀ l : List α, (l.map (fun y => (y, F))).map Prod.fst = l := fun l => by rw [List.map_map]; exact List.map_id l
  have hfr : ∀ pre x, fr (pre ++ [x]) = x.2 := fun pre x => by simp [fr]
  refine wp_range_r (enc := fun x : α × List En => #[enc x.1]) (a := mkA n (tab L s) ds) (w := w) (by rw [mkA_eval]; exact hg s) eg (fun x => rfl)
    (fun pre W => Mem w0 Bs (.resv w.heap.size :: C (pre.map Prod.fst) :: fr pre) W)
    (fun pre x W => pre.length < N ∧ Mem w0 Bs (.resv w.heap.size :: C (pre.map Prod.fst) :: x.2) W)
    (fun l => l.map Prod.fst = xs ∧ fr l = F) (fun _ => False)
    (fun pre W r r' hJ _ => hJ.putD _) (fun _ _ _ h _ => h) ?_ ?_ ?_ ?_ (fun _ h _ => h.elim)
  · intro r
    have h1 : New w ((w.alloc (.deferred (some []))).alloc (.loop r)) [.resv w.heap.size] := by
      refine ⟨(below_alloc1 _ _).trans ((below_alloc1 _ _).mono (by rw [World.size_alloc]; omega)), fun b => b = w.heap.size ∨ b = w.heap.size + 1, fun b hb => ?_, ⟨.inl rfl, .inr rfl⟩, trivial⟩
      rw [World.size_alloc, World.size_alloc]; omega
    exact (h0 w hw).new h1
  · intro r r' W hJ hL hy
    refine (hiter w.heap.size r W (hJ.loopI hL) ?_).mono ?_
    · intro pre x F' W1 hN hm
      obtain ⟨hl, hm1⟩ := hm.loopE
      have := hy (pre.map (fun y => (y, F))) (x, F') W1 (by rw [hmp]; exact ⟨by simpa using hN, hm1⟩) hl
      refine yield_mono this ?_
      rintro e W2 (⟨rfl, hj, hl2⟩ | ⟨_, h, _⟩)
      · refine ⟨rfl, ?_⟩
        rw [hfr, List.map_append, hmp] at hj
        exact Mem.loopI hj hl2
      · exact h.elim
    · rintro e W2 ⟨hv, hm⟩
      obtain ⟨hl, hm1⟩ := hm.loopE
      have hf : fr (xs.map fun y => (y, F)) = F := by
        simp only [fr, List.getLast?_map, Option.map_map]
        cases xs.getLast? <;> rfl
      refine ⟨hv, .inl ⟨xs.map fun y => (y, F), ?_, ⟨hmp xs, hf⟩, hl⟩⟩
      show Mem w0 Bs _ W2
      rw [hf, hmp]
      exact hm1
  · intro pre x W r hM hL
    have := (hround w.heap.size r (pre.map Prod.fst) x.1 x.2 (by simpa using hM.1)).go s W (hM.2.loopI hL)
    have e : (#[p].zip #[enc x.1]).foldl (fun t (q : Nat × Value) => t.setIfInBounds q.1 q.2) (mkA n (tab L s) ds).tmps = tmA n (tab ((p, enc x.1) :: L) s) := by
      have : (#[p].zip #[enc x.1]) = #[(p, enc x.1)] := by simp [Array.zip]
      rw [this]
      exact tm_put n (tab L s) p (enc x.1)
    refine wpIn_mono (show assign.wpIn _ 0 P _ { tmps := (#[p].zip #[enc x.1]).foldl (fun t (q : Nat × Value) => t.setIfInBounds q.1 q.2) (mkA n (tab L s) ds).tmps, defers := [] } W from by rw [e]; exact this) ?_
    intro e' a1 W1 h
    cases e' with
    | normal =>
      obtain ⟨hl1, hb⟩ := h
      refine ⟨hl1, fun r' => wpIn_mono (hb r') ?_⟩
      rintro e2 a2 W2 ⟨⟨he, hm⟩, hl2⟩
      exact ⟨.inl ⟨he, by rw [hfr, List.map_append]; exact hm⟩, hl2⟩
    | _ => exact h
  · rintro l W hJ ⟨h1, h2⟩ hd
    rw [h1, h2] at hJ
    exact (hdone w.heap.size).go s W (hJ.markI hd)
end
end

section
set_option linter.all false
open Go.RowKit

section
variable (w0 : World) (Bs : List Nat) (P : Program)
/-- operations of a region in the order of the text, with calls of yield among them -/
structure GoY (ops : Array Oper) (n : Nat) (ds : List Deferred) (Q : Exit → Act → World → Prop) (l : List Oper) (L : List (Nat × Value)) (H : List En) : Prop where
  go : ∀ g w, Mem w0 Bs H w → wpListIn (Fw none) 0 P ops Q l (mkA n (tab L g) ds) w
end
section
variable {w0 w : World} {Bs : List Nat} {P : Program} {n : Nat} {ds : List Deferred} {L L' : List (Nat × Value)} {H H1 H2 : List En} {Q : Exit → Act → World → Prop} {ops : Array Oper} {os l : List Oper} {d : Nat} {op : Op} {ty : TypeId} {pos : String} {af : Array Edge} {x y : Operand}
/-- a call that began elsewhere: the walk goes on in the memory that stands -/
theorem go_in0 {f : FuncId} {fn : Func} {c : Code} {args : Array Value} {R : Ending → World → Prop} (hf : P.funcs[f]? = some fn) (hb : fn.body = some c) (hn : fn.ntmps = n) (hM : Mem w0 Bs H w)
    (h : GoC w0 Bs P c n [] L H (bodyPost P fn R)) (ha : args.size ≤ n := by simp) (hL : inP args.toList 0 = L := by simp only [inP, Nat.reduceAdd]; rfl) : Calls P f args w R :=
  enter_F hf hb hn ha fun s hs => by
    have := h.go s w hM
    rw [← hL, inP_get _ _ _ (fun i v hv => ?_)] at this
    · exact this
    · have hi : i < args.size := by have := (List.getElem?_eq_some_iff.1 hv).1; simpa using this
      rw [Nat.zero_add, hs i hi]
      rw [Array.getElem?_toList] at hv
      rw [hv]; rfl
theorem gy_reg {id : Nat} (h : GoY w0 Bs P l.toArray n ds Q l L H) : GoC w0 Bs P (.region id l.toArray false) n ds L H Q := .mk fun g w hw =>
  (wpIn_wide (n := 0)).1 (wpIn_region_lit (h.go g w hw))
theorem gy_run (k : Nat) {l1 l2 : List Oper} (h : GoL w0 Bs P ops n (fun s w => wpListIn (Fw none) 0 P ops Q l2 (mkA n s ds) w) l1 L H) (e : l.take k = l1 ∧ l.drop k = l2 := by (constructor <;> (simp only [List.take_succ_cons, List.take_zero, List.drop_succ_cons, List.drop_zero]; (try rfl)))) (hd : noDefer l1 = true := by rfl) : GoY w0 Bs P ops n ds Q l L H := .mk fun g w hw => by
  have := listF_then (P := P) (m := 0) (ops := ops) (l2 := l2) Q l1 _ _ hd (h.go g w hw)
  rwa [← e.1, ← e.2, List.take_append_drop] at this
theorem gy_on (h : GoY w0 Bs P ops n ds Q l L H) : GoL w0 Bs P ops n (fun s w => wpListIn (Fw none) 0 P ops Q l (mkA n s ds) w) [] L H := ⟨h.go⟩
theorem gy_end (h : GoX w0 Bs .normal n ds L H Q) : GoY w0 Bs P ops n ds Q [] L H := ⟨h.go⟩
/-- a call of yield -/
theorem gy_y {α : Type} {enc : α → Value} {C : List α → En} {D : Nat} {r : Loop} {N : Nat} {pre : List α} (hy : Yields w0 Bs P enc C D r N) (v : α) (p1 : Pick (.loop D r) H H1) (p2 : Pick (C pre) H1 H2) (hN : pre.length < N)
    (h : GoY w0 Bs P ops n ds Q os ((d, .bool true) :: L) (.loop D r :: C (pre ++ [v]) :: H2)) (hr : ∀ g w, (execOp (evF n (tab L g)) ⟨some d, op, ty, pos, af, none⟩).run P w = (Instr.yield (D + 1) #[enc v]).run P w := by intro g w; go_simp; (try rfl))
    (hd : ∀ c, op ≠ .defer c := by intro c h; cases h) : GoY w0 Bs P ops n ds Q (⟨some d, op, ty, pos, af, none⟩ :: os) L H := .mk fun g w hw => by
  have hm : Mem w0 Bs (.loop D r :: C pre :: H2) w := (hw.perm p1.perm).perm (p2.perm.cons _)
  exact yield_in (l := D + 1) (d := d) (v := enc v) rfl hd rfl (hr g w) (hy pre v H2 w hN hm) fun e w' ⟨he, hm'⟩ => ⟨_, he, h.go g w' hm'⟩
/-- an operation under a guard, ahead of a call of yield -/
theorem gy_g {dst : Option Nat} {j : Nat} {b : Bool} (k : ∃ t v, (ops[j]?).bind (·.dst) = some t ∧ t < n ∧ At L t v ∧ Gd (GoY w0 Bs P ops n ds Q (⟨dst, op, ty, pos, af, none⟩ :: os) L H) (∃ L', (∀ g, updS (tab L g) dst undef = tab L' g) ∧ GoY w0 Bs P ops n ds Q os L' H) b v)
    (hdf : ∀ c, op ≠ .defer c := by intro c h; cases h) : GoY w0 Bs P ops n ds Q (⟨dst, op, ty, pos, af, some (j, b)⟩ :: os) L H := .mk fun g w hw => by
  obtain ⟨t, v, hd, hn, hs, hg⟩ := k
  have no : ∀ L', (∀ g, updS (tab L g) dst undef = tab L' g) → GoY w0 Bs P ops n ds Q os L' H → Region.wanted ⟨dst, op, ty, pos, af, some (j, b)⟩ (yielded ops (tmA n (tab L g))) = false → wpListIn (Fw none) 0 P ops Q (⟨dst, op, ty, pos, af, some (j, b)⟩ :: os) (mkA n (tab L g) ds) w := by
    intro L' hL' h hw'
    unfold wpListIn
    rw [if_neg (by show ¬ Region.wanted _ (yielded ops (tmA n (tab L g))) = true; rw [hw']; simp), mkA_put, hL']
    exact ⟨fun _ _ => trivial, h.go g w hw⟩
  cases hg with
  | yes h =>
    have h1 := h.go g w hw
    unfold wpListIn at h1 ⊢
    rw [if_pos (by show Region.wanted _ (yielded ops (tmA n (tab L g))) = true; rw [wanted_F (b' := b) rfl hd hn (hs g)]; simp)]
    rw [if_pos (by simp [Region.wanted])] at h1
    exact h1
  | no h hb => obtain ⟨L', hL', h⟩ := h; exact no L' hL' h (by rw [wanted_F rfl hd hn (hs g)]; exact hb)
  | un h => obtain ⟨L', hL', h⟩ := h; exact no L' hL' h (wanted_nu rfl hd hn (hs g))
/-- two ways meet behind the next k operations -/
theorem gy_to (k : Nat) {l2 : List Oper} (L' : List (Nat × Value)) (H' : List En) (h1 : Kp (GoY w0 Bs P ops n ds Q l2 L' H') → GoY w0 Bs P ops n ds Q l L H) (h2 : GoY w0 Bs P ops n ds Q l2 L' H') (_ : l.drop k = l2 := by (simp only [List.drop_succ_cons, List.drop_zero, List.drop_nil]; (try rfl))) : GoY w0 Bs P ops n ds Q l L H := h1 ⟨h2⟩
theorem gy_as {H' : List En} (h : GoY w0 Bs P ops n ds Q l L' H') (hA : AgreeL L L') (hE : Sub H' H) : GoY w0 Bs P ops n ds Q l L H := .mk fun g w hw => by
  have := h.go (tab L g) w (hw.sub hE); rwa [hA.tab] at this
end
end

section
set_option linter.all false
set_option pp.maxSteps 100000
set_option maxRecDepth 100000
set_option maxHeartbeats 4000000
open Go.RowKit

/-- the events of an order at which a path is, when the path goes on -/
def stepE (os : List LOrd) (k : Int) : List Evt :=
  ⟨k, 0⟩ :: ((if fromB (lx os k.toNat).op = true then [⟨(os.length : Int) + (lx os k.toNat).fr, 0⟩] else []) ++
    ((if toB (lx os k.toNat).op = true then [⟨(os.length : Int) + (lx os k.toNat).tt, 0⟩] else []) ++ (if twB (lx os k.toNat).op = true then [⟨(os.length : Int) + (lx os k.toNat).tt, 12⟩] else [])))
def pathTo (os : List LOrd) (l : List Int) : Nat → List Evt
  | 0 => []
  | i + 1 => pathTo os l i ++ stepE os (lx l i)
def pathE (os : List LOrd) (l : List Int) : List Evt := pathTo os l (l.length - 1) ++ [⟨lx l (l.length - 1), 0⟩]
theorem pathTo_len (os : List LOrd) (l : List Int) : ∀ i, (pathTo os l i).length ≤ 4 * i
  | 0 => by simp [pathTo]
  | i + 1 => by
    have ih := pathTo_len os l i
    have : (stepE os (lx l i)).length ≤ 4 := by
      unfold stepE
      simp only [List.length_cons, List.length_append]
      split <;> split <;> split <;> simp
    simp only [pathTo, List.length_append]; omega
theorem pathE_len (os : List LOrd) (l : List Int) (h : l.length ≤ 24) : 1 ≤ (pathE os l).length ∧ (pathE os l).length ≤ 93 := by
  have := pathTo_len os l (l.length - 1)
  simp only [pathE, List.length_append, List.length_cons, List.length_nil]; omega
def evV (v : Evt) : Value := .agg #[.int .i64 v.item, .int .i64 v.wait]
theorem setLs_app : ∀ (vs l : List Value) (off : Nat), off + vs.length = l.length → setLs l off vs = l.take off ++ vs
  | [], l, off, h => by
    have : l.take off = l := List.take_of_length_le (by simp at h; omega)
    simp [setLs, this]
  | v :: vs, l, off, h => by
    have hl : off < l.length := by simp at h; omega
    rw [setLs, setLs_app vs (l.set off v) (off + 1) (by simp at h ⊢; omega)]
    rw [List.take_succ, List.getElem?_set_self hl]
    simp [List.take_set_of_le]
theorem setLs_all {vs l : List Value} (h : vs.length = l.length) : setLs l 0 vs = vs := by rw [setLs_app vs l 0 (by omega)]; simp
/-- what the orders use, as cells -/
def usesC : List Value := usesV.cells.toList
theorem usesC_at {op : Int} (hop : 0 ≤ op ∧ op ≤ 7) : LoadV Tryz.prog 127 (usesC.drop (op.toNat * 4)) (.agg #[.bool (fromB op), .bool (toB op), .bool (twB op), .func (.func (leadN op)) #[] #[]]) := by
  have h8 : op = 0 ∨ op = 1 ∨ op = 2 ∨ op = 3 ∨ op = 4 ∨ op = 5 ∨ op = 6 ∨ op = 7 := by omega
  rcases h8 with rfl | rfl | rfl | rfl | rfl | rfl | rfl | rfl
  all_goals exact LoadV.agg (hl := by decide +kernel) (ha := by rfl)
/-- the address of an element of an array, whatever its size -/
theorem Ex.am {w0 : World} {Bs : List Nat} {P : Program} {n : Nat} {L : List (Nat × Value)} {H : List En} {d : Nat} {T ty : TypeId} {pos : String} {af : Array Edge} {gd : Option (Nat × Bool)} {x y : Operand} {b i len : Nat} (m : Nat) {k : IntKind} {z : Int} {e : TypeId}
    (hx : ∀ g, evF n (tab L g) x = .pointer (some ⟨b, 0, none⟩) := by intro g; simp only [evF_tmp, tab_cons, Nat.reduceLT, Nat.reduceEqDiff, ↓reduceIte]; (try rfl))
    (hy : ∀ g, evF n (tab L g) y = .int k z := by intro g; simp only [evF_tmp, evF_const, tab_cons, Nat.reduceLT, Nat.reduceEqDiff, ↓reduceIte]; (try rfl))
    (hi : z.toNat = i := by (try simp only [Int.toNat_natCast, Int.reduceToNat]); rfl)
    (ht : ∀ w (R : Result TypeDesc → Prop), R (.ok (.array len e) w) → R ((underlying T).run P w) := by intro w R hR; go_simp; exact hR) (hs : ∀ w (R : Result Nat → Prop), R (.ok m w) → R ((sizeOf e).run P w) := by intro w R hR; go_simp; exact hR) (hb : 0 ≤ z ∧ z < (len : Int) := by omega) : Ex w0 Bs P n ⟨some d, .indexAddr T x y, ty, pos, af, gd⟩ L H (.pointer (some ⟨b, i * m, none⟩)) := fun g w hw => by
  subst hi
  simp only [execOp, Instr.indexAt, Instr.sureAddr, asIntOf, hx g, hy g, Sem.run_bind, Sem.run_pure, Result.andThen_ok, ht w (fun r => r = _) rfl, hs w (fun r => r = _) rfl, hb, and_self, if_true, add_none, Nat.zero_add]
theorem pathIt_v {w0 w : World} {Bs : List Nat} {C : List Evt → En} {Dk bT bP : Nat} {r : Loop} {F : List En} (t : TD) (p : PthR)
    (hm : Mem w0 [] (.loop Dk r :: C [] :: .cells bT t.cs :: .cells bP p.cs :: F) w) (hy : Yields w0 [] Tryz.prog evV C Dk r 93) (ho : Rd LOrd.cs 4 w0 t.ao t.os) (hp : Rd icell 1 w0 p.a p.os) (hn : t.os.length ≤ 24 ∧ 1 ≤ p.os.length ∧ p.os.length ≤ 24)
    (hk : ∀ k ∈ p.os, 0 ≤ k ∧ k < (t.os.length : Int)) (hop : ∀ o ∈ t.os, 0 ≤ o.op ∧ o.op ≤ 7) (hr : ∀ o ∈ t.os, (fromB o.op = true → 0 ≤ o.fr ∧ o.fr ≤ 16) ∧ (toB o.op = true → 0 ≤ o.tt ∧ o.tt ≤ 16)) :
    Calls Tryz.prog 122 #[.func (.yield (Dk + 1)) #[] #[], .pointer (some ⟨bP, 0, none⟩), .pointer (some ⟨bT, 0, none⟩)] w (fun e w' => (∃ v, e = .returned v) ∧ Mem w0 [] (.loop Dk r :: C (pathE t.os p.os) :: .cells bT t.cs :: .cells bP p.cs :: F) w') := by
  simp only [TD.cs, PthR.cs] at hm ⊢
  replace hm := (Mem.starI (hm.perm (List.perm_append_comm (l₁ := [_, _, _, _]) (l₂ := F)))).perm (List.perm_append_comm (l₁ := [_]) (l₂ := [_, _, _, _]))
  simp only [List.cons_append, List.nil_append] at hm
  refine go_in0 Tryz.func122 rfl Tryz.ntmps122 hm ?_
  refine go ?_
  refine GoL.cv (fun w' hw => uses_v w') ?_
  refine go ?_
  refine GoL.a (fun b4 => ?_)
  refine go ?_
  refine GoL.st ⟨b4, 0, _, usesC, usesC, 32, usesV, _, fun g => rfl, fun g => rfl, rfl, (by intro w R hR; go_simp; exact hR), rfl, Rep.here, setLs_all rfl, (by decide +kernel), (by simp [usesC, usesV, Value.cells]), ?_⟩
  refine go ?_
  refine go_loop (X := Nat) (fun i => i + 1 ≤ p.os.length) (fun i => p.os.length - i) (fun i => [(14, .int .i64 i)]) (fun i => [.loop Dk r, C (pathTo t.os p.os i), .cells b4 usesC, .cells bT [.slice t.ao t.os.length t.co, .int .i64 t.data, .int .i64 t.lines, .slice t.ap t.ps.length t.cp], .cells bP [.slice p.a p.os.length p.c, .int .i64 p.cnt], .star F]) 0 [0, 1, 2, 4, 12, 13] hn.2.1 ⟨fun g => rfl, trivial⟩ sb (fun i hi => ?_)
  have hkm := lx_mem (l := p.os) (i := i) (by omega)
  have hkb := hk _ hkm
  have hom := lx_mem (l := t.os) (i := (lx p.os i).toNat) (by omega)
  have hob := hop _ hom
  have hor := hr _ hom
  have hpl := pathTo_len t.os p.os i
  refine go ?_
  refine go_if (fun h => ?_) (fun h => ?_)
  rotate_left
  · exact absurd h (by omega)
  refine go ?_
  refine D.al ?_
  refine go ?_
  refine D.s (A := fun dp _ => .ptr (dp.headD undef) [.int .i64 (lx t.os (lx p.os i).toNat).op, .int .i64 (lx t.os (lx p.os i).toNat).fr, .int .i64 (lx t.os (lx p.os i).toNat).tt, .int .i64 (lx t.os (lx p.os i).toNat).nx]) [8] [] [8] (fun X F => Ef.st (off := 0) Pick.here (hl := rfl)) ?_
  refine go ?_
  refine D.nilp 9 (fun b7 => ?_)
  refine go ?_
  refine GoL.q ⟨_, Ex.am 4, ?_⟩
  refine GoL.q ⟨_, Ex.ld (l := usesC) (off := (lx t.os (lx p.os i).toNat).op.toNat * 4) (hc := fun w hw => hw.cells pk) (hv := usesC_at hob), ?_⟩
  refine go ?_
  refine GoL.a (fun b9 => ?_)
  refine GoL.st ?_
  refine ⟨b9, 0, _, _, [.bool (fromB (lx t.os (lx p.os i).toNat).op), .bool (toB (lx t.os (lx p.os i).toNat).op), .bool (twB (lx t.os (lx p.os i).toNat).op), .func (.func (leadN (lx t.os (lx p.os i).toNat).op)) #[] #[]], 4, .agg #[.bool (fromB (lx t.os (lx p.os i).toNat).op), .bool (toB (lx t.os (lx p.os i).toNat).op), .bool (twB (lx t.os (lx p.os i).toNat).op), .func (.func (leadN (lx t.os (lx p.os i).toNat).op)) #[] #[]], _, fun g => rfl, fun g => rfl, rfl, (by intro w R hR; go_simp; exact hR), rfl, Rep.here, rfl, (by simp [Value.oneCell']), (by simp), ?_⟩
  simp only [setLs, List.set_cons_zero, List.set_cons_succ, Nat.reduceAdd]
  refine go_nil ?_
  refine xt_n ?_
  refine go_seq ?_
  refine go_seq ?_
  refine gy_reg ?_
  refine gy_run 3 ?_
  refine go ?_
  refine gy_on ?_
  refine gy_y hy ⟨lx p.os i, 0⟩ pk pk (by omega) ?_
  refine gy_run 9 ?_
  refine go ?_
  refine gy_on ?_
  refine gy_end ?_
  refine xt_n ?_
  refine go_if (fun h2 => ?_) (fun h2 => ?_)
  · refine go ?_
    refine end0 (fun w' hw => ⟨⟨_, rfl⟩, ?_⟩)
    have e : pathE t.os p.os = pathTo t.os p.os i ++ [⟨lx p.os i, 0⟩] := by
      obtain rfl : i = p.os.length - 1 := by omega
      rfl
    rw [e]
    have h3 := (hw.sub (H' := [.star F, .loop Dk r, C (pathTo t.os p.os i ++ [⟨lx p.os i, 0⟩]), .cells bT [.slice t.ao t.os.length t.co, .int .i64 t.data, .int .i64 t.lines, .slice t.ap t.ps.length t.cp], .cells bP [.slice p.a p.os.length p.c, .int .i64 p.cnt]]) sb).flat
    exact h3.perm (List.perm_append_comm (l₂ := [_, _, _, _]))
  refine go_skip ?_
  refine xt_n ?_
  refine go_seq ?_
  refine go_seq ?_
  refine gy_reg ?_
  refine gy_to 12 [(55, .bool false), (0, .func (.yield (Dk + 1)) #[] #[]), (1, .pointer (some ⟨bP, 0, none⟩)), (2, .pointer (some ⟨bT, 0, none⟩)), (4, .pointer (some ⟨b4, 0, none⟩)), (5, .int .i64 i), (6, .int .i64 (lx p.os i)), (7, .pointer (some ⟨b7, 0, none⟩)), (8, .int .i64 t.os.length), (9, .pointer (some ⟨b9, 0, none⟩)), (12, .slice p.a p.os.length p.c), (13, .int .i64 p.os.length), (14, .int .i64 i)] [.loop Dk r, C (pathTo t.os p.os i ++ [⟨lx p.os i, 0⟩] ++ (if fromB (lx t.os (lx p.os i).toNat).op = true then [⟨(t.os.length : Int) + (lx t.os (lx p.os i).toNat).fr, 0⟩] else [])), .cells b9 [.bool (fromB (lx t.os (lx p.os i).toNat).op), .bool (toB (lx t.os (lx p.os i).toNat).op), .bool (twB (lx t.os (lx p.os i).toNat).op), .func (.func (leadN (lx t.os (lx p.os i).toNat).op)) #[] #[]], .cells b7 [.int .i64 (lx t.os (lx p.os i).toNat).op, .int .i64 (lx t.os (lx p.os i).toNat).fr, .int .i64 (lx t.os (lx p.os i).toNat).tt, .int .i64 (lx t.os (lx p.os i).toNat).nx], .cells b4 usesC, .cells bT [.slice t.ao t.os.length t.co, .int .i64 t.data, .int .i64 t.lines, .slice t.ap t.ps.length t.cp], .cells bP [.slice p.a p.os.length p.c, .int .i64 p.cnt], .star F] (fun J9 => ?_) ?_
  · refine gy_run 9 ?_
    refine go ?_
    refine GoL.sp (fun hf => ?_) (fun hf => ?_)
    · have hff := hor.1 hf
      refine go ?_
      refine gy_on ?_
      refine gy_g ⟨_, _, rfl, by decide, by intro g; simp only [tab_cons, Nat.reduceEqDiff, ↓reduceIte]; (try rfl), Gd.yes ?_⟩
      refine gy_y hy ⟨(t.os.length : Int) + (lx t.os (lx p.os i).toNat).fr, 0⟩ pk pk (by simp; omega) ?_
      refine gy_run 2 ?_
      refine go ?_
      refine gy_on ?_
      have K2 := J9.out
      rw [if_pos hf] at K2
      exact gy_as K2 (by simp [AgreeL, At]) sb
    · refine go ?_
      refine gy_on ?_
      refine gy_g ⟨_, _, rfl, by decide, by intro g; simp only [tab_cons, Nat.reduceEqDiff, ↓reduceIte]; (try rfl), Gd.no ⟨_, tab_upd _ _ _, ?_⟩ rfl⟩
      refine gy_run 2 ?_
      refine go ?_
      refine gy_on ?_
      have K2 := J9.out
      rw [if_neg (by rw [hf]; decide), List.append_nil] at K2
      exact gy_as K2 (by simp [AgreeL, At]) sb
  generalize hA : (if fromB (lx t.os (lx p.os i).toNat).op = true then [(⟨(t.os.length : Int) + (lx t.os (lx p.os i).toNat).fr, 0⟩ : Evt)] else []) = eA
  have hAl : eA.length ≤ 1 := by rw [← hA]; split <;> simp
  refine gy_to 14 [(69, .bool false), (0, .func (.yield (Dk + 1)) #[] #[]), (1, .pointer (some ⟨bP, 0, none⟩)), (2, .pointer (some ⟨bT, 0, none⟩)), (4, .pointer (some ⟨b4, 0, none⟩)), (5, .int .i64 i), (6, .int .i64 (lx p.os i)), (7, .pointer (some ⟨b7, 0, none⟩)), (8, .int .i64 t.os.length), (9, .pointer (some ⟨b9, 0, none⟩)), (12, .slice p.a p.os.length p.c), (13, .int .i64 p.os.length), (14, .int .i64 i)] [.loop Dk r, C (pathTo t.os p.os i ++ [⟨lx p.os i, 0⟩] ++ eA ++ (if toB (lx t.os (lx p.os i).toNat).op = true then [(⟨(t.os.length : Int) + (lx t.os (lx p.os i).toNat).tt, 0⟩ : Evt)] else [])), .cells b9 [.bool (fromB (lx t.os (lx p.os i).toNat).op), .bool (toB (lx t.os (lx p.os i).toNat).op), .bool (twB (lx t.os (lx p.os i).toNat).op), .func (.func (leadN (lx t.os (lx p.os i).toNat).op)) #[] #[]], .cells b7 [.int .i64 (lx t.os (lx p.os i).toNat).op, .int .i64 (lx t.os (lx p.os i).toNat).fr, .int .i64 (lx t.os (lx p.os i).toNat).tt, .int .i64 (lx t.os (lx p.os i).toNat).nx], .cells b4 usesC, .cells bT [.slice t.ao t.os.length t.co, .int .i64 t.data, .int .i64 t.lines, .slice t.ap t.ps.length t.cp], .cells bP [.slice p.a p.os.length p.c, .int .i64 p.cnt], .star F] (fun J9 => ?_) ?_
  · refine gy_run 10 ?_
    refine go ?_
    refine GoL.sp (fun hf => ?_) (fun hf => ?_)
    · have hff := hor.2 hf
      refine go ?_
      refine gy_on ?_
      refine gy_g ⟨_, _, rfl, by decide, by intro g; simp only [tab_cons, Nat.reduceEqDiff, ↓reduceIte]; (try rfl), Gd.yes ?_⟩
      refine gy_y hy ⟨(t.os.length : Int) + (lx t.os (lx p.os i).toNat).tt, 0⟩ pk pk (by simp; omega) ?_
      refine gy_run 3 ?_
      refine go ?_
      refine gy_on ?_
      have K2 := J9.out
      rw [if_pos hf] at K2
      exact gy_as K2 (by simp [AgreeL, At]) sb
    · refine go ?_
      refine gy_on ?_
      refine gy_g ⟨_, _, rfl, by decide, by intro g; simp only [tab_cons, Nat.reduceEqDiff, ↓reduceIte]; (try rfl), Gd.no ⟨_, tab_upd _ _ _, ?_⟩ rfl⟩
      refine gy_run 3 ?_
      refine go ?_
      refine gy_on ?_
      have K2 := J9.out
      rw [if_neg (by rw [hf]; decide), List.append_nil] at K2
      exact gy_as K2 (by simp [AgreeL, At]) sb
  generalize hB : (if toB (lx t.os (lx p.os i).toNat).op = true then [(⟨(t.os.length : Int) + (lx t.os (lx p.os i).toNat).tt, 0⟩ : Evt)] else []) = eB
  have hBl : eB.length ≤ 1 := by rw [← hB]; split <;> simp
  refine gy_end ?_
  refine xt_n ?_
  refine go_tf ⟨_, by intro g; simp only [tab_cons, Nat.reduceEqDiff, ↓reduceIte]; (try rfl), by decide, Or.inr ⟨rfl, ?_⟩⟩
  refine go_skip ?_
  refine xt_n ?_
  refine go_seq ?_
  refine gy_reg ?_
  refine gy_to 12 [(81, .bool false), (0, .func (.yield (Dk + 1)) #[] #[]), (1, .pointer (some ⟨bP, 0, none⟩)), (2, .pointer (some ⟨bT, 0, none⟩)), (4, .pointer (some ⟨b4, 0, none⟩)), (5, .int .i64 i), (6, .int .i64 (lx p.os i)), (7, .pointer (some ⟨b7, 0, none⟩)), (8, .int .i64 t.os.length), (9, .pointer (some ⟨b9, 0, none⟩)), (12, .slice p.a p.os.length p.c), (13, .int .i64 p.os.length), (14, .int .i64 i)] [.loop Dk r, C (pathTo t.os p.os i ++ [⟨lx p.os i, 0⟩] ++ eA ++ eB ++ (if twB (lx t.os (lx p.os i).toNat).op = true then [(⟨(t.os.length : Int) + (lx t.os (lx p.os i).toNat).tt, 12⟩ : Evt)] else [])), .cells b9 [.bool (fromB (lx t.os (lx p.os i).toNat).op), .bool (toB (lx t.os (lx p.os i).toNat).op), .bool (twB (lx t.os (lx p.os i).toNat).op), .func (.func (leadN (lx t.os (lx p.os i).toNat).op)) #[] #[]], .cells b7 [.int .i64 (lx t.os (lx p.os i).toNat).op, .int .i64 (lx t.os (lx p.os i).toNat).fr, .int .i64 (lx t.os (lx p.os i).toNat).tt, .int .i64 (lx t.os (lx p.os i).toNat).nx], .cells b4 usesC, .cells bT [.slice t.ao t.os.length t.co, .int .i64 t.data, .int .i64 t.lines, .slice t.ap t.ps.length t.cp], .cells bP [.slice p.a p.os.length p.c, .int .i64 p.cnt], .star F] (fun J9 => ?_) ?_
  · refine gy_run 9 ?_
    refine go ?_
    refine GoL.sp (fun hf => ?_) (fun hf => ?_)
    · have hff := hor.2 (show toB (lx t.os (lx p.os i).toNat).op = true by unfold twB at hf; unfold toB; simp at hf ⊢; omega)
      refine go ?_
      refine gy_on ?_
      refine gy_g ⟨_, _, rfl, by decide, by intro g; simp only [tab_cons, Nat.reduceEqDiff, ↓reduceIte]; (try rfl), Gd.yes ?_⟩
      refine gy_y hy ⟨(t.os.length : Int) + (lx t.os (lx p.os i).toNat).tt, 12⟩ pk pk (by simp; omega) ?_
      refine gy_run 2 ?_
      refine go ?_
      refine gy_on ?_
      have K2 := J9.out
      rw [if_pos hf] at K2
      exact gy_as K2 (by simp [AgreeL, At]) sb
    · refine go ?_
      refine gy_on ?_
      refine gy_g ⟨_, _, rfl, by decide, by intro g; simp only [tab_cons, Nat.reduceEqDiff, ↓reduceIte]; (try rfl), Gd.no ⟨_, tab_upd _ _ _, ?_⟩ rfl⟩
      refine gy_run 2 ?_
      refine go ?_
      refine gy_on ?_
      have K2 := J9.out
      rw [if_neg (by rw [hf]; decide), List.append_nil] at K2
      exact gy_as K2 (by simp [AgreeL, At]) sb
  generalize hC : (if twB (lx t.os (lx p.os i).toNat).op = true then [(⟨(t.os.length : Int) + (lx t.os (lx p.os i).toNat).tt, 12⟩ : Evt)] else []) = eC
  refine gy_end ?_
  refine go ?_
  have e : pathTo t.os p.os i ++ [⟨lx p.os i, 0⟩] ++ eA ++ eB ++ eC = pathTo t.os p.os (i + 1) := by
    subst hA hB hC
    simp [pathTo, stepE]
  rw [e]
  refine go_again (i + 1) (by omega) (by omega) ⟨fun g => rfl, fun g => rfl, fun g => rfl, fun g => rfl, fun g => rfl, fun g => rfl, fun g => rfl, trivial⟩ sb
end

section
set_option linter.all false
open Go.RowKit

section
/-- the marks of the ranges that are done -/
def En.marks (Ds : List Nat) : En where
  P S w := (∀ D ∈ Ds, S D ∧ w.heap[D]? = some (.deferred (some []))) ∧ Ds.Nodup
  mono h hs := ⟨fun D hD => ⟨hs _ (h.1 D hD).1, (h.1 D hD).2⟩, h.2⟩
  loc h hs _ := ⟨fun D hD => ⟨(h.1 D hD).1, (hs _ (h.1 D hD).1).trans (h.1 D hD).2⟩, h.2⟩
variable {w0 w : World} {Bs : List Nat} {H : List En} {D : Nat} {Ds : List Nat}
theorem Mem.marks0 (h : Mem w0 Bs H w) : Mem w0 Bs (.marks [] :: H) w := by
  obtain ⟨h0, hr⟩ := h
  exact ⟨h0, fun _ => False, fun _ h => h.elim, ⟨fun _ h => by simp at h, List.nodup_nil⟩, hr.mono fun b hb => ⟨hb, fun h => h⟩⟩
theorem Mem.marksI (h : Mem w0 Bs (.mark D :: .marks Ds :: H) w) : Mem w0 Bs (.marks (D :: Ds) :: H) w := by
  obtain ⟨h0, S, hS, ⟨s1, hd⟩, T, hT, ⟨ht, hn⟩, hr⟩ := h
  refine ⟨h0, fun b => S b ∨ T b, fun b hb => hb.elim (hS b) (fun h => (hT b h).1), ⟨fun E hE => ?_, List.nodup_cons.2 ⟨fun hm => (hT D (ht D hm).1).2 s1, hn⟩⟩, hr.mono fun b hb => ⟨hb.1.1, fun h => h.elim hb.1.2 hb.2⟩⟩
  rcases List.mem_cons.1 hE with rfl | hE
  · exact ⟨.inl s1, hd⟩
  · exact ⟨.inr (ht E hE).1, (ht E hE).2⟩
theorem Mem.shut (h : Mem w0 Bs (.marks Ds :: H) w) : Mem w0 Bs H (Go.Proofs.YtigehmghcafblaaGreat.shut Ds w) := by
  have hb := below_shut (N := w.heap.size) (w0 := w)
  have key : Mem w0 Bs (.pure True :: H) (Go.Proofs.YtigehmghcafblaaGreat.shut Ds w) := by
    refine h.rep Rep.here fun S hx hlt => ?_
    have ho : ∀ (l : List Nat) (u : World), (Go.Proofs.YtigehmghcafblaaGreat.shut l u).os = u.os ∧ (Go.Proofs.YtigehmghcafblaaGreat.shut l u).tape = u.tape ∧ (Go.Proofs.YtigehmghcafblaaGreat.shut l u).output = u.output := by
      intro l
      induction l with
      | nil => intro u; exact ⟨rfl, rfl, rfl⟩
      | cons a l ih => intro u; obtain ⟨h1, h2, h3⟩ := ih (u.putObj a (.deferred none)); exact ⟨h1, h2, h3⟩
    obtain ⟨h1, h2, h3⟩ := ho Ds w
    exact ⟨h1, h2, h3, by rw [shut_size]; exact Nat.le_refl _, fun b _ hn => shut_block Ds w b (fun hm => hn (hx.1 b hm).1), trivial⟩
  exact key.pures.2
end

section
variable {w0 : World} {Bs : List Nat} {P : Program} {c : Code} {n : Nat} {ds : List Deferred} {L L2 C : List (Nat × Value)} {H H2 : List En} {Q : Exit → Act → World → Prop} {fn : Func} {R : Ending → World → Prop}
theorem go_inM {f : FuncId} {args : Array Value} {w : World} (hf : P.funcs[f]? = some fn) (hb : fn.body = some c) (hn : fn.ntmps = n) (Bs : List Nat) (H : List En) (hM : Mem w Bs H w)
    (h : GoC w Bs P c n [] L H (bodyPostM Fence.wide 0 P fn R)) (ha : args.size ≤ n := by simp) (hL : inP args.toList 0 = L := by simp only [inP, Nat.reduceAdd]; rfl) : Calls P f args w R :=
  enterM_F hf hb hn ha fun s hs => by
    have := h.go s w hM
    rw [← hL, inP_get _ _ _ (fun i v hv => ?_)] at this
    · exact this
    · have hi : i < args.size := by have := (List.getElem?_eq_some_iff.1 hv).1; simpa using this
      rw [Nat.zero_add, hs i hi]
      rw [Array.getElem?_toList] at hv
      rw [hv]; rfl
theorem endM {Ds : List Nat} (h : ∀ g w, Mem w0 Bs H w → ∃ v, (results fn (tmA n (tab L g))).run P w = .ok v w ∧ R (.returned v) w) : GoX w0 Bs .ret n (marks Ds []) L (.marks Ds :: H) (bodyPostM Fence.wide 0 P fn R) := .mk fun g w hw => by
  have h1 := hw.shut
  obtain ⟨S, hx, _⟩ := hw.head
  obtain ⟨v, h2, h3⟩ := h g _ h1
  exact leave_marks (by simp) Ds w (fun D hD => (hx.1 D hD).2) hx.2 ⟨v, h2, h3⟩
def AgainD (w0 : World) (Bs : List Nat) (n : Nat) (ds : List Deferred) {X : Type} (I : X → Prop) (μ : X → Nat) (V : X → List (Nat × Value)) (E : X → List En) (M : X → List Nat) (C : List (Nat × Value)) (x : X) : Act → World → Prop :=
  fun a' w' => ∃ k' s' d', a' = mkA n s' d' ∧ k' < μ x ∧ ∃ x', k' = μ x' ∧ I x' ∧ d' = marks (M x') ds ∧ (∃ g, s' = tab (V x' ++ C) g) ∧ Mem w0 Bs (E x') w'
/-- a loop whose rounds leave marks -/
theorem go_loopD {X : Type} (I : X → Prop) (μ : X → Nat) (V : X → List (Nat × Value)) (E : X → List En) (M : X → List Nat) (x0 : X) (ks : List Nat) (h0 : I x0) (hV : AgreeL L (V x0)) (hE : Sub (E x0) H)
    (round : ∀ x, I x → GoC w0 Bs P c n (marks (M x) ds) (V x ++ C) (E x) (Exit.then (AgainD w0 Bs n ds I μ V E M C x) Q)) (hC : keepL (tab L fun _ => undef) ks = C := by simp only [keepL_cons, keepL_nil, tab_cons, tab_nil, Nat.reduceEqDiff, ↓reduceIte]; rfl)
    (hA : AgreeL L C := by simp only [AgreeL, At, tab_cons, Nat.reduceEqDiff, ↓reduceIte, implies_true, and_self]) : GoC w0 Bs P (.loop c) n (marks (M x0) ds) L H Q := .mk fun g w hw => by
  refine loop_D (n := n) (fun k s d w => ∃ x, k = μ x ∧ I x ∧ d = marks (M x) ds ∧ (∃ g, s = tab (V x ++ C) g) ∧ Mem w0 Bs (E x) w) (k0 := μ x0) ⟨x0, rfl, h0, rfl, ⟨tab L g, ?_⟩, hw.sub hE⟩ ?_
  · rw [tab_app, hA.tab, hV.tab]
  · rintro k s d w ⟨x, rfl, hI, rfl, ⟨g, rfl⟩, hw⟩
    exact (round x hI).go g w hw
theorem go_againD {X : Type} {I : X → Prop} {μ : X → Nat} {V : X → List (Nat × Value)} {E : X → List En} {M : X → List Nat} {x : X} (x' : X) {ds' : List Deferred} (hd : ds' = marks (M x') ds) (hI : I x') (hμ : μ x' < μ x) (hA : AgreeL L2 (V x' ++ C)) (hE : Sub (E x') H2) : GoX w0 Bs .normal n ds' L2 H2 (Exit.then (AgainD w0 Bs n ds I μ V E M C x) Q) := .mk fun g w hw =>
  ⟨μ x', _, _, rfl, hμ, x', rfl, hI, hd, ⟨tab L2 g, hA.tab.symm⟩, hw.sub hE⟩
end
end

section
set_option linter.all false
set_option pp.maxSteps 100000
set_option maxRecDepth 100000
set_option maxHeartbeats 4000000
open Go.RowKit

theorem path_v (t : TD) (p : PthR) (w : World) :
    Calls Tryz.prog 90 #[.agg #[.slice t.ao t.os.length t.co, .int .i64 t.data, .int .i64 t.lines, .slice t.ap t.ps.length t.cp], .agg #[.slice p.a p.os.length p.c, .int .i64 p.cnt]] w
      (Ret (fun b : Nat × Nat => .func (.func 122) #[] #[.pointer (some ⟨b.1, 0, none⟩), .pointer (some ⟨b.2, 0, none⟩)]) (fun b => [.cells b.2 t.cs, .cells b.1 p.cs]) w) := by
  refine go_in Tryz.func90 rfl Tryz.ntmps90 [] [] (Mem.start _) ?_
  refine go ?_
  refine GoL.a (fun bT => ?_)
  refine go ?_
  refine GoL.a (fun bP => ?_)
  refine go ?_
  refine end1 ?_
  exact fun w' hw => ⟨(bP, bT), rfl, hw.done sb⟩
end

section
set_option linter.all false
open Go.RowKit

section
theorem Sub.refl : ∀ H : List En, Sub H H
  | [] => .nil
  | _ :: H => .cons .here (Sub.refl H)
theorem Sub.tl {K H : List En} {e : En} (h : Sub K H) : Sub K (e :: H) := by
  induction h generalizing e with
  | nil => exact .nil
  | cons p _ ih => exact .cons (.there p) ih
theorem Mem.ownRd {α : Type} {w0 w : World} {Bs : List Nat} {H H' : List En} {f : α → List Value} {m n c : Nat} {T : TypeId} {a : Option Addr} {l : List α} (h : Mem w0 Bs H w) (p : Pick (.own f m T (.slice a n c) l) H H') (hf : ∀ x, (f x).length = m := by intro _; rfl) : Rd f m w a l := (h.own p).rd' hf rfl
/-- each of these, maybe in the same blocks -/
def En.all {X : Type} (l : List X) (e : X → En) : En where
  P S w := ∀ x ∈ l, (e x).P S w
  mono h hs := fun x hx => (e x).mono (h x hx) hs
  loc h hs hz := fun x hx => (e x).loc (h x hx) hs hz
/-- both, maybe in the same blocks -/
def En.and (a b : En) : En where
  P S w := a.P S w ∧ b.P S w
  mono h hs := ⟨a.mono h.1 hs, b.mono h.2 hs⟩
  loc h hs hz := ⟨a.loc h.1 hs hz, b.loc h.2 hs hz⟩
variable {w0 w : World} {Bs : List Nat} {H H' : List En} {a b e : En}
theorem Mem.all0 {X : Type} {e : X → En} (h : Mem w0 Bs H w) : Mem w0 Bs (.all [] e :: H) w := by
  obtain ⟨h0, hr⟩ := h
  exact ⟨h0, fun _ => False, fun _ h => h.elim, (fun x hx => by simp at hx), hr.mono fun b hb => ⟨hb, fun h => h⟩⟩
theorem Mem.fuse (h : Mem w0 Bs (a :: b :: H) w) : Mem w0 Bs (.and a b :: H) w := by
  obtain ⟨h0, S, hS, ha, T, hT, hb, hr⟩ := h
  exact ⟨h0, fun x => S x ∨ T x, fun x hx => hx.elim (hS x) (fun h => (hT x h).1), ⟨a.mono ha fun _ h => .inl h, b.mono hb fun _ h => .inr h⟩, hr.mono fun x hx => ⟨hx.1.1, fun h => h.elim hx.1.2 hx.2⟩⟩
theorem Mem.allI {X : Type} {e : X → En} {l : List X} {x : X} (h : Mem w0 Bs (e x :: .all l e :: H) w) : Mem w0 Bs (.all (l ++ [x]) e :: H) w := by
  refine h.fuse.to Rep.here fun S hS y hy => ?_
  rcases List.mem_append.1 hy with hy | hy
  · exact hS.2 y hy
  · obtain rfl : y = x := by simpa using hy
    exact hS.1
theorem Mem.own0 {α : Type} (f : α → List Value) (m : Nat) (T : TypeId) (h : Mem w0 Bs H w) : Mem w0 Bs (.own f m T (.slice none 0 0) [] :: H) w := by
  obtain ⟨h0, hr⟩ := h
  exact ⟨h0, fun _ => False, fun _ h => h.elim, ⟨fun g hg => by simp [Value.ownBlock] at hg, Own.nil f m T 0 w⟩, hr.mono fun b hb => ⟨hb, fun h => h⟩⟩
theorem Mem.hd (h : Mem w0 Bs (e :: H) w) : ∃ S, e.P S w := let ⟨S, h1, _⟩ := h.head; ⟨S, h1⟩
end
section
variable {w0 : World} {Bs : List Nat} {P : Program} {c : Code} {n : Nat} {ds : List Deferred} {L : List (Nat × Value)} {H H' : List En} {Q : Exit → Act → World → Prop} {ops : Array Oper} {K : (Nat → Value) → World → Prop} {os : List Oper} {v : Value} {d : Nat} {op : Op} {ty : TypeId} {pos : String} {af : Array Edge} {x : Exit} {ρ : Option Nat}
/- memory seen in another way -/
theorem GoC.mem (hm : ∀ w, Mem w0 Bs H w → Mem w0 Bs H' w) (h : GoC w0 Bs P c n ds L H' Q) : GoC w0 Bs P c n ds L H Q := .mk fun g w hw => h.go g w (hm w hw)
theorem GoX.mem (hm : ∀ w, Mem w0 Bs H w → Mem w0 Bs H' w) (h : GoX w0 Bs x n ds L H' Q) : GoX w0 Bs x n ds L H Q := .mk fun g w hw => h.go g w (hm w hw)
theorem GoL.mem (hm : ∀ w, Mem w0 Bs H w → Mem w0 Bs H' w) (h : GoL w0 Bs P ops n K os L H') : GoL w0 Bs P ops n K os L H := .mk fun g w hw => h.go g w (hm w hw)
theorem GoI.mem (hm : ∀ w, Mem w0 Bs H w → Mem w0 Bs H' w) (h : GoI w0 Bs P ρ c n L H' Q) : GoI w0 Bs P ρ c n L H Q := .mk fun g w hw => h.go g w (hm w hw)
theorem GoC.mx {X : Type} {H' : X → List En} (hm : ∀ w, Mem w0 Bs H w → ∃ x, Mem w0 Bs (H' x) w) (h : ∀ x, GoC w0 Bs P c n ds L (H' x) Q) : GoC w0 Bs P c n ds L H Q := .mk fun g w hw => let ⟨x, hx⟩ := hm w hw; (h x).go g w hx
theorem GoL.mx {X : Type} {H' : X → List En} (hm : ∀ w, Mem w0 Bs H w → ∃ x, Mem w0 Bs (H' x) w) (h : ∀ x, GoL w0 Bs P ops n K os L (H' x)) : GoL w0 Bs P ops n K os L H := .mk fun g w hw => let ⟨x, hx⟩ := hm w hw; (h x).go g w hx
theorem GoX.mx {X : Type} {H' : X → List En} (hm : ∀ w, Mem w0 Bs H w → ∃ x, Mem w0 Bs (H' x) w) {e : Exit} (h : ∀ x, GoX w0 Bs e n ds L (H' x) Q) : GoX w0 Bs e n ds L H Q := .mk fun g w hw => let ⟨x, hx⟩ := hm w hw; (h x).go g w hx
theorem GoC.fact {p : Prop} (hm : ∀ w, Mem w0 Bs H w → p) (h : p → GoC w0 Bs P c n ds L H Q) : GoC w0 Bs P c n ds L H Q := .mk fun g w hw => (h (hm w hw)).go g w hw
theorem GoL.fact {p : Prop} (hm : ∀ w, Mem w0 Bs H w → p) (h : p → GoL w0 Bs P ops n K os L H) : GoL w0 Bs P ops n K os L H := .mk fun g w hw => (h (hm w hw)).go g w hw
theorem GoX.fact {p : Prop} {e : Exit} (hm : ∀ w, Mem w0 Bs H w → p) (h : p → GoX w0 Bs e n ds L H Q) : GoX w0 Bs e n ds L H Q := .mk fun g w hw => (h (hm w hw)).go g w hw
/-- a call that alters what stands -/
theorem GoL.cm {f : FuncId} {args : Array Value} {X : Type} {val : X → Value} {H' : X → List En} (hc : ∀ w, Mem w0 Bs H w → Calls P f args w (fun e w' => ∃ x, e = .returned (val x) ∧ Mem w0 Bs (H' x) w')) (hr : ∀ x, GoL w0 Bs P ops n K os ((d, val x) :: L) (H' x)) (h : Cl P n ⟨some d, op, ty, pos, af, none⟩ L f args := by exact Cl.q) : GoL w0 Bs P ops n K (⟨some d, op, ty, pos, af, none⟩ :: os) L H :=
  .mk fun g w hw => listF_step rfl fun K' hK => by
    unfold opF; rw [h g w]; exact (hc w hw).mono fun e w' ⟨x, he, hn⟩ => ⟨_, he, hK _ _ ((hr x).go g w' hn)⟩
end
section
variable {w0 : World} {Bs : List Nat} {P : Program} {n : Nat} {L : List (Nat × Value)} {H H1 H2 : List En} {ops : Array Oper} {K : (Nat → Value) → World → Prop} {os : List Oper} {u v : Value} {d : Nat} {T ty : TypeId} {pos : String} {af : Array Edge} {gd : Option (Nat × Bool)} {x y : Operand}
/-- append of a list that is known by its value -/
theorem Ef.appS {α : Type} {f : α → List Value} {m bytes : Nat} {t e e2 : TypeId} {l l2 : List α} (het : ElemT P t e m bytes) (hf : ∀ x, (f x).length = m) (hone : ∀ x, ∀ u ∈ f x, u.oneCell' = true) (hbytes : ((l.length + l2.length) + (l.length + l2.length) / 4 + 192) * bytes ≤ 140737488355328)
    (p1 : Pick (.own f m e v l) H H1) (p2 : Pick (.sl f m e2 l2 u) H1 H2) (hx : ∀ g, evF n (tab L g) x = v := by intro g; simp only [evF_tmp, tab_cons, Nat.reduceLT, Nat.reduceEqDiff, ↓reduceIte]; (try rfl))
    (hy : ∀ g, evF n (tab L g) y = u := by intro g; simp only [evF_tmp, tab_cons, Nat.reduceLT, Nat.reduceEqDiff, ↓reduceIte]; (try rfl)) (hd : d < n := by decide) :
    Ef w0 Bs P n ⟨some d, .call { callee := .builtin .append, args := #[x, y], argTypes := #[t, t] }, ty, pos, af, gd⟩ L H (.sl f m e (l ++ l2)) H2 := fun g w hw => by
  have h1 : Mem w0 Bs (.sl f m e2 l2 u :: .own f m e v l :: H2) w := ((hw.perm p1.perm).perm (p2.perm.cons _)).perm (.swap _ _ _)
  obtain ⟨a, c, hu, h2⟩ := h1.slE
  have h3 := Ef.app (w0 := w0) (Bs := Bs) (P := P) (n := n) (L := L) (ty := ty) (pos := pos) (af := af) (gd := gd) (H := .own f m e2 (.slice a l2.length c) l2 :: .own f m e v l :: H2) (H' := .own f m e2 (.slice a l2.length c) l2 :: H2) het hf hone hbytes (.there .here) (fun w hw => hw.ownRd .here hf) hx (fun g => (hy g).trans hu) hd g w h2
  exact uponF.mono (fun v' w' hm => hm.sub (.cons .here (Sub.tl (Sub.refl _)))) h3
theorem GoL.slo {α : Type} {f : α → List Value} {m : Nat} {l : List α} (k : ∀ a c, v = .slice a l.length c → GoL w0 Bs P ops n K os L (.own f m T (.slice a l.length c) l :: H)) : GoL w0 Bs P ops n K os L (.sl f m T l v :: H) := .mk fun g w hw => by
  obtain ⟨a, c, hv, h2⟩ := hw.slE
  exact (k a c hv).go g w h2
end
end

section
set_option linter.all false
open Go.RowKit

/-- a plan of a task in old memory -/
def En.plan (x : PD) (b : Nat) : En := .and (.cells b [.slice x.t.ao x.t.os.length x.t.co, .int .i64 x.t.data, .int .i64 x.t.lines, .slice x.t.ap x.t.ps.length x.t.cp, .slice x.ae x.es.length x.ce])
  (.and (.rd EvR.cs 1 x.ae x.es) (.all x.es fun y => .rd Evt.cs 2 y.a y.l))
theorem Mem.plan {w0 w : World} {Bs : List Nat} {H H' : List En} {x : PD} {b : Nat} (h : Mem w0 Bs H w) (p : Pick (.plan x b) H H') (ht : x.t.At w) : x.At b w := by
  obtain ⟨S, hx, _⟩ := (h.pick p).head
  exact ⟨hx.1.2, ht, hx.2.1.2, fun y hy => (hx.2.2 y hy).2⟩
/-- a task that Check accepts -/
structure TD.Ok (t : TD) : Prop where
  n1 : 1 ≤ t.os.length ∧ t.os.length ≤ 24
  d1 : 0 ≤ t.data ∧ t.data ≤ 16
  l1 : 1 ≤ t.lines ∧ t.lines ≤ 8
  p1 : t.ps.length ≤ 8
  it : (t.os.length : Int) + t.data ≤ t.lines * 16
  o : ∀ o ∈ t.os, oddL t.os.length t.data o = 0
  w : ∀ p ∈ t.ps, wildL t.os p.os p.cnt = 0
theorem firstBad_i {f : Nat → Int} {n : Nat} : (firstBad f n = none ∧ ∀ j, j < n → f j = 0) ∨ ∃ i, firstBad f n = some i ∧ i < n ∧ ¬ f i = 0 := by
  cases h : firstBad f n with
  | none =>
    refine .inl ⟨rfl, fun j hj => ?_⟩
    unfold firstBad at h; rw [List.find?_eq_none] at h
    have := h j (by simp [hj]); simpa using this
  | some i =>
    unfold firstBad at h; rw [List.find?_range_eq_some] at h
    exact .inr ⟨i, rfl, by simpa using h.2.1, by simpa using h.1⟩
theorem chkL_ok {t : TD} {p i : Int} (h : chkL t = (p, i, 0)) : t.Ok := by
  unfold chkL at h
  split at h
  · cases h
  split at h
  · cases h
  split at h
  · cases h
  rename_i h1 h2 h3
  rcases firstBad_i (f := fun i => oddL t.os.length t.data (lx t.os i)) (n := t.os.length) with ⟨h4, h5⟩ | ⟨k, h4, _, h5⟩
  · rw [h4] at h
    simp only at h
    rcases firstBad_i (f := fun i => wildL t.os (lx t.ps i).os (lx t.ps i).cnt) (n := t.ps.length) with ⟨h6, h7⟩ | ⟨k, h6, _, h7⟩
    · unfold outP at h1 h2
      refine ⟨by omega, by omega, by omega, by omega, by omega, fun o ho => ?_, fun p hp => ?_⟩
      · obtain ⟨j, hj, rfl⟩ := List.mem_iff_getElem.1 ho
        have := h5 j hj; rwa [lx_eq hj] at this
      · obtain ⟨j, hj, rfl⟩ := List.mem_iff_getElem.1 hp
        have := h7 j hj; rwa [lx_eq hj] at this
    · rw [h6] at h; simp only [Prod.mk.injEq] at h; exact absurd h.2.2 h7
  · rw [h4] at h; simp only [Prod.mk.injEq] at h; exact absurd h.2.2 h5
theorem oddL_ok {n : Nat} {data : Int} {o : LOrd} (h : oddL n data o = 0) : (0 ≤ o.op ∧ o.op ≤ 7) ∧ (fromB o.op = true → 0 ≤ o.fr ∧ o.fr < data) ∧ (toB o.op = true → 0 ≤ o.tt ∧ o.tt < data) ∧ ∀ i ∈ leadsL o, 0 ≤ i ∧ i < (n : Int) := by
  unfold oddL at h
  split at h
  · cases h
  split at h
  · cases h
  rename_i h1 h2
  simp only [outP, not_or, not_and, Bool.not_eq_true, List.any_eq_false] at h1 h2
  refine ⟨by omega, fun hf => ?_, fun hf => ?_, fun i hi => ?_⟩
  · have := h2.1 hf; omega
  · have := h2.2.1 hf; omega
  · have h9 := h2.2.2 i hi; have h8 := of_decide_eq_false h9; omega
theorem wildL_ok {os : List LOrd} {p : List Int} {cnt : Int} (h : wildL os p cnt = 0) : (1 ≤ p.length ∧ p.length ≤ 24) ∧ (1 ≤ cnt ∧ cnt ≤ 1000) ∧ (∀ i ∈ p, 0 ≤ i ∧ i < (os.length : Int)) ∧ ∀ i, i + 1 < p.length → lx p (i + 1) ∈ leadsL (lx os (lx p i).toNat) := by
  unfold wildL at h
  split at h
  · cases h
  split at h
  · cases h
  split at h
  · cases h
  split at h
  · cases h
  rename_i h1 h2 h3 h4
  simp only [outP, not_or, Bool.not_eq_true, List.any_eq_false] at h1 h2 h3 h4
  refine ⟨by omega, by omega, fun i hi => ?_, fun i hi => ?_⟩
  · have h9 := h3 i hi; have h8 := of_decide_eq_false h9; omega
  · have := h4 i (by simp; omega); simpa using this
end

section
set_option linter.all false
set_option pp.maxSteps 100000
set_option maxRecDepth 100000
set_option maxHeartbeats 4000000
open Go.RowKit

theorem endM0 {w0 : World} {Bs : List Nat} {P : Program} {n : Nat} {L : List (Nat × Value)} {H : List En} {fn : Func} {R : Ending → World → Prop} (h : ∀ g w, Mem w0 Bs H w → ∃ v, (results fn (tmA n (tab L g))).run P w = .ok v w ∧ R (.returned v) w) : GoX w0 Bs .ret n [] L H (bodyPostM Fence.wide 0 P fn R) :=
  .mk fun g w hw => (endM (Ds := []) h).go g w hw.marks0
def openE (t : TD) : List (List Evt) := t.ps.map fun p => pathE t.os p.os
theorem open_bad (t : TD) (p i e : Int) (w : World) (hn : t.Len) (hT : t.At w) (hr : chkL t = (p, i, e)) (he : ¬ e = 0) :
    Calls Tryz.prog 41 #[.agg #[.slice t.ao t.os.length t.co, .int .i64 t.data, .int .i64 t.lines, .slice t.ap t.ps.length t.cp]] w (fun e' w' => e' = .returned (.tuple #[.pointer none, .int .i64 e]) ∧ Below w.heap.size w w') := by
  refine go_inM Tryz.func41 rfl Tryz.ntmps41 [] [] (Mem.start _) ?_
  refine go ?_
  refine GoL.a (fun b1 => ?_)
  refine go ?_
  refine GoL.cv (fun w' hw => check_v t p i e w' (hT.old hw) hn hr) ?_
  refine go ?_
  refine go_if (fun h => ?_) (fun h => ?_)
  rotate_left
  · exact absurd h (by simpa using he)
  refine go ?_
  exact endM0 fun g w' hw => ⟨.tuple #[.pointer none, .int .i64 e], res_tt rfl (getD_F (by decide)) (getD_F (by decide)), rfl, hw.below⟩

theorem elE : ElemT Tryz.prog 86 147 2 16 := ElemT.mk' (z := .agg #[.int .i64 0, .int .i64 0]) Tryz.underlying86 (by kernel_rfl) rfl
theorem elEE : ElemT Tryz.prog 105 86 1 24 := ElemT.mk' (z := .slice none 0 0) Tryz.underlying105 (by kernel_rfl) rfl
theorem Evt.one (x : Evt) : ∀ u ∈ x.cs, u.oneCell' = true := by intro u hu; simp at hu; rcases hu with rfl | rfl <;> rfl
theorem EvR.one (x : EvR) : ∀ u ∈ x.cs, u.oneCell' = true := by intro u hu; simp at hu; subst hu; rfl
/-- the memory of the events of a path under way -/
def opC (b : Nat) (l : List Evt) : En := .ex fun p : Option Addr × Nat => .star [.cells b [.slice p.1 l.length p.2], .own Evt.cs 2 147 (.slice p.1 l.length p.2) l]
theorem callPath (args : Array Value) (w : World) : (callFunc 122 args).run Tryz.prog w = .ok (.enter 122 args) w := by go_simp
theorem open_ok (t : TD) (p i : Int) (w : World) (hn : t.Len) (hT : t.At w) (hr : chkL t = (p, i, 0)) :
    Calls Tryz.prog 41 #[.agg #[.slice t.ao t.os.length t.co, .int .i64 t.data, .int .i64 t.lines, .slice t.ap t.ps.length t.cp]] w
      (Ret (fun x : PD × Nat => .tuple #[.pointer (some ⟨x.2, 0, none⟩), .int .i64 0]) (fun x => [.pure (x.1.t = t ∧ x.1.es.map (·.l) = openE t ∧ ∀ y ∈ x.1.es, y.l.length ≤ y.c), .plan x.1 x.2]) w) := by
  have hok := chkL_ok hr
  have htp := hT.p
  have hp1 := hok.p1
  refine go_inM Tryz.func41 rfl Tryz.ntmps41 [] [] (Mem.start _) ?_
  refine go ?_
  refine GoL.a (fun b1 => ?_)
  refine go ?_
  refine GoL.cv (fun w' hw => check_v t p i 0 w' (hT.old hw) hn hr) ?_
  refine go ?_
  refine GoL.a (fun b7 => ?_)
  refine go ?_
  refine GoC.mem (fun w hw => (Mem.own0 EvR.cs 1 86 (Mem.all0 (X := EvR) (e := fun y => .rd Evt.cs 2 y.a y.l) (hw.marks0)))) ?_
  refine go_loopD (X := List Nat × List EvR × Option Addr × Nat) (ds := []) (fun x => x.2.1.length ≤ t.ps.length ∧ x.2.1.map (·.l) = (openE t).take x.2.1.length ∧ ∀ y ∈ x.2.1, y.l.length ≤ y.c) (fun x => t.ps.length - x.2.1.length) (fun x => [(27, .int .i64 x.2.1.length)])
    (fun x => [.cells b1 t.cs, .cells b7 [.slice t.ao t.os.length t.co, .int .i64 t.data, .int .i64 t.lines, .slice t.ap t.ps.length t.cp, .slice x.2.2.1 x.2.1.length x.2.2.2], .own EvR.cs 1 86 (.slice x.2.2.1 x.2.1.length x.2.2.2) x.2.1, .all x.2.1 fun y => .rd Evt.cs 2 y.a y.l, .marks x.1]) (fun x => x.1) ([], [], none, 0) [1, 7, 25, 26] ⟨Nat.zero_le _, rfl, fun y hy => by simp at hy⟩ ⟨fun g => rfl, trivial⟩ sb (fun x hx => ?_)
  obtain ⟨Ds, es, ae, ce⟩ := x
  obtain ⟨hi1, hi2, hi3⟩ := hx
  simp only at hi1 hi2 hi3
  simp only [TD.cs]
  refine go ?_
  refine go_if (fun h => ?_) (fun h => ?_)
  · have h5 : es.length < t.ps.length := by omega
    refine go ?_
    refine GoL.a (fun b9 => ?_)
    refine go ?_
    refine GoL.a (fun b10 => ?_)
    refine go ?_
    refine GoL.c (fun w' hw => path_v t (lx t.ps es.length) w') (fun x => ?_)
    obtain ⟨bP, bT⟩ := x
    refine go ?_
    have hpm := lx_mem (l := t.ps) h5
    have hw4 := wildL_ok (hok.w _ hpm)
    refine go_range 93 evV (opC b10) [.cells b9 (lx t.ps es.length).cs, .cells b1 t.cs, .cells b7 [.slice t.ao t.os.length t.co, .int .i64 t.data, .int .i64 t.lines, .slice t.ap t.ps.length t.cp, .slice ae es.length ce], .own EvR.cs 1 86 (.slice ae es.length ce) es, .all es (fun y => .rd Evt.cs 2 y.a y.l), .marks Ds, .cells bT t.cs, .cells bP (lx t.ps es.length).cs] (pathE t.os (lx t.ps es.length).os) (fun w' hw => ?_) (fun Dk r w' hw hy => ?_) (fun Dk r pre v F' hN => ?_) (fun Dk => ?_) callPath
    · exact Mem.exI (none, 0) (Mem.starI (A := [_, _]) ((Mem.own0 Evt.cs 2 147 hw).sub sb))
    · refine (pathIt_v (Bs := []) (F := [.cells b9 (lx t.ps es.length).cs, .cells b1 t.cs, .cells b7 [.slice t.ao t.os.length t.co, .int .i64 t.data, .int .i64 t.lines, .slice t.ap t.ps.length t.cp, .slice ae es.length ce], .own EvR.cs 1 86 (.slice ae es.length ce) es, .all es (fun y => .rd Evt.cs 2 y.a y.l), .marks Ds]) t (lx t.ps es.length) (hw.sub sb) hy hT.o (hT.q _ hpm) ⟨hok.n1.2, hw4.1⟩ hw4.2.2.1 (fun o ho => (oddL_ok (hok.o o ho)).1) (fun o ho => ⟨fun hf => ?_, fun hf => ?_⟩)).mono fun e w' ⟨h1, h2⟩ => ⟨h1, h2.sub sb⟩
      · have := (oddL_ok (hok.o o ho)).2.1 hf; have := hok.d1; omega
      · have := (oddL_ok (hok.o o ho)).2.2.1 hf; have := hok.d1; omega
    · refine gi_reg ?_
      refine GoL.a (fun b11 => ?_)
      simp only [evV]
      refine go ?_
      refine GoX.mem (fun w hw => hw.sub (H' := .loop Dk r :: .cells b11 v.cs :: opC b10 pre :: F') (Sub.cons pk (Sub.cons pk (Sub.refl _)))) ?_
      refine gi_mid (fun r' => ?_)
      refine gi_blk ?_
      refine gi_reg ?_
      refine GoL.mx (H' := fun p : Option Addr × Nat => .cells b10 [.slice p.1 pre.length p.2] :: .own Evt.cs 2 147 (.slice p.1 pre.length p.2) pre :: .loop Dk r' :: .cells b11 v.cs :: F') (fun w hw => ?_) (fun p => ?_)
      · have h9 : Mem _ _ (opC b10 pre :: .loop Dk r' :: .cells b11 v.cs :: F') w := hw.sub (Sub.cons pk (Sub.cons pk (Sub.cons pk (Sub.refl _))))
        obtain ⟨p, hp⟩ := h9.exs
        exact ⟨p, hp.flat⟩
      obtain ⟨a10, c10⟩ := p
      simp only [Evt.cs]
      refine go ?_
      refine GoL.sl (Ef.lit (f := Evt.cs) (m := 2) (e := 147) [v] (fun _ => rfl) rfl) (fun a1 c1 => ?_)
      refine go ?_
      refine GoL.sl (Ef.app (f := Evt.cs) (l := pre) (l2 := [v]) elE (fun _ => rfl) Evt.one (by simp only [List.length_cons, List.length_nil]; omega) pk (fun w hw => hw.ownRd pk)) (fun a2 c2 => ?_)
      refine go ?_
      refine gi_end rfl (fun w hw => ?_)
      exact (Mem.exI (a2, c2) (Mem.starI (A := [_, _]) (show Mem _ _ ([.cells b10 [.slice a2 (pre ++ [v]).length c2], .own Evt.cs 2 147 (.slice a2 (pre ++ [v]).length c2) (pre ++ [v])] ++ .loop Dk r' :: F') w from hw.sub (Sub.cons pk (Sub.cons pk (Sub.cons pk (Sub.tl (Sub.tl (Sub.refl _))))))))).perm (.swap _ _ _)
    · have hpl := pathE_len t.os (lx t.ps es.length).os hw4.1.2
      refine xb_n ?_
      refine xt_n ?_
      refine GoC.mx (H' := fun p : Option Addr × Nat => [.own EvR.cs 1 86 (.slice ae es.length ce) es, .cells b10 [.slice p.1 (pathE t.os (lx t.ps es.length).os).length p.2], .own Evt.cs 2 147 (.slice p.1 (pathE t.os (lx t.ps es.length).os).length p.2) (pathE t.os (lx t.ps es.length).os), .mark Dk, .marks Ds, .all es (fun y => .rd Evt.cs 2 y.a y.l), .cells b1 t.cs, .cells b7 [.slice t.ao t.os.length t.co, .int .i64 t.data, .int .i64 t.lines, .slice t.ap t.ps.length t.cp, .slice ae es.length ce]]) (fun w hw => ?_) (fun p => ?_)
      · obtain ⟨p, hp⟩ := (hw.pick (.there .here)).exs
        exact ⟨p, hp.flat.sub sb⟩
      obtain ⟨a10, c10⟩ := p
      refine GoC.fact (p := (pathE t.os (lx t.ps es.length).os).length ≤ c10) (fun w hw => (hw.own (l := pathE t.os (lx t.ps es.length).os) pk).cap) (fun hc10 => ?_)
      simp only [TD.cs]
      refine go_drw [.own EvR.cs 1 86 (.slice ae es.length ce) es] [.cells b10 [.slice a10 (pathE t.os (lx t.ps es.length).os).length c10], .own Evt.cs 2 147 (.slice a10 (pathE t.os (lx t.ps es.length).os).length c10) (pathE t.os (lx t.ps es.length).os), .mark Dk, .marks Ds, .all es (fun y => .rd Evt.cs 2 y.a y.l), .cells b1 [.slice t.ao t.os.length t.co, .int .i64 t.data, .int .i64 t.lines, .slice t.ap t.ps.length t.cp], .cells b7 [.slice t.ao t.os.length t.co, .int .i64 t.data, .int .i64 t.lines, .slice t.ap t.ps.length t.cp, .slice ae es.length ce]] ?_
      refine go ?_
      refine D.e0 [] [] (fun X F => Ef.lit (f := EvR.cs) (m := 1) (e := 86) [⟨pathE t.os (lx t.ps es.length).os, a10, c10⟩] (fun _ => rfl) rfl) ?_
      refine go ?_
      refine D.e0 [] [11, 6] (fun X F => Ef.appS (f := EvR.cs) (l := es) (l2 := [⟨pathE t.os (lx t.ps es.length).os, a10, c10⟩]) elEE (fun _ => rfl) EvR.one (by simp only [List.length_cons, List.length_nil]; omega) .here .here) ?_
      refine go ?_
      refine D.nil [(7, fun X => .sl EvR.cs 1 86 (es ++ [⟨pathE t.os (lx t.ps es.length).os, a10, c10⟩]) (X 7))] (fun X => GoL.slo fun a c hX => ?_) (hchk := (by show chkDD _ _ 1 [7] = true; decide +kernel))
      rw [hX]
      refine go ?_
      generalize hes : es ++ [(⟨pathE t.os (lx t.ps es.length).os, a10, c10⟩ : EvR)] = es'
      have hle : es'.length = es.length + 1 := by rw [← hes]; simp
      have HI : es'.length ≤ t.ps.length ∧ es'.map (·.l) = (openE t).take es'.length ∧ ∀ y ∈ es', y.l.length ≤ y.c := by
        rw [hle, ← hes]
        refine ⟨h5, ?_, fun y hy => ?_⟩
        · rw [List.map_append, hi2, List.take_succ, openE, List.getElem?_map, lx_some h5]; rfl
        · rcases List.mem_append.1 hy with hy | hy
          · exact hi3 y hy
          · obtain rfl : y = _ := by simpa using hy
            exact hc10
      refine GoX.mem (fun w hw => ?_) (go_againD (H2 := [.marks (Dk :: Ds), .all es' (fun y => .rd Evt.cs 2 y.a y.l), .own EvR.cs 1 86 (.slice a es'.length c) es', .cells b1 [.slice t.ao t.os.length t.co, .int .i64 t.data, .int .i64 t.lines, .slice t.ap t.ps.length t.cp], .cells b7 [.slice t.ao t.os.length t.co, .int .i64 t.data, .int .i64 t.lines, .slice t.ap t.ps.length t.cp, .slice a es'.length c]]) (Dk :: Ds, es', a, c) rfl HI ?_ ?_ sb)
      · have h1 := (hw.sub (H' := [.own Evt.cs 2 147 (.slice a10 (pathE t.os (lx t.ps es.length).os).length c10) (pathE t.os (lx t.ps es.length).os), .all es (fun y => .rd Evt.cs 2 y.a y.l), .mark Dk, .marks Ds, .own EvR.cs 1 86 (.slice a es'.length c) es', .cells b1 [.slice t.ao t.os.length t.co, .int .i64 t.data, .int .i64 t.lines, .slice t.ap t.ps.length t.cp], .cells b7 [.slice t.ao t.os.length t.co, .int .i64 t.data, .int .i64 t.lines, .slice t.ap t.ps.length t.cp, .slice a es'.length c]]) sb).o2r .here (fun _ => rfl)
        have h2 := Mem.allI (e := fun y : EvR => .rd Evt.cs 2 y.a y.l) (x := ⟨pathE t.os (lx t.ps es.length).os, a10, c10⟩) h1
        rw [hes] at h2
        exact (h2.sub (H' := [.mark Dk, .marks Ds, _, _, _, _]) sb).marksI.sub sb
      · show t.ps.length - es'.length < t.ps.length - es.length
        omega
      · simp [AgreeL, At, hle]
  · refine go ?_
    have hlen : es.length = t.ps.length := by omega
    refine GoX.mem (H' := [.marks Ds, .plan ⟨t, es, ae, ce⟩ b7]) (fun w hw => ?_) (endM (fun g w' hw => ⟨.tuple #[.pointer (some ⟨b7, 0, none⟩), .int .i64 0], res_tt rfl (getD_F (by decide)) (getD_F (by decide)), (⟨t, es, ae, ce⟩, b7), rfl, (Mem.pureI (p := t = t ∧ es.map (·.l) = openE t ∧ ∀ y ∈ es, y.l.length ≤ y.c) ⟨rfl, ?_, hi3⟩ hw).done sb⟩))
    · have h1 := (hw.sub (H' := [.own EvR.cs 1 86 (.slice ae es.length ce) es, .all es (fun y => .rd Evt.cs 2 y.a y.l), .cells b7 [.slice t.ao t.os.length t.co, .int .i64 t.data, .int .i64 t.lines, .slice t.ap t.ps.length t.cp, .slice ae es.length ce], .marks Ds]) sb).o2r .here (fun _ => rfl)
      exact ((h1.fuse.perm (.swap _ _ _)).fuse.perm (.swap _ _ _))
    · rw [hi2, hlen]; exact List.take_of_length_le (by simp [openE])
end

section
set_option linter.all false
set_option pp.maxSteps 100000
set_option maxRecDepth 100000
set_option maxHeartbeats 4000000
open Go.RowKit

theorem pathE_item {t : TD} (ht : t.Ok) {p : PthR} (hp : p ∈ t.ps) : ∀ v ∈ pathE t.os p.os, 0 ≤ v.item ∧ v.item < (t.os.length : Int) + t.data ∧ 0 ≤ v.wait ∧ v.wait ≤ 12 := by
  have hw := wildL_ok (ht.w p hp)
  have hd := ht.d1
  have hstep : ∀ j, j < p.os.length → ∀ v ∈ stepE t.os (lx p.os j), 0 ≤ v.item ∧ v.item < (t.os.length : Int) + t.data ∧ 0 ≤ v.wait ∧ v.wait ≤ 12 := by
    intro j hj v hv
    have h1 := hw.2.2.1 _ (lx_mem hj)
    have h2 := oddL_ok (ht.o _ (lx_mem (l := t.os) (i := (lx p.os j).toNat) (by omega)))
    unfold stepE at hv
    rcases List.mem_cons.1 hv with rfl | hv
    · simp only; omega
    rcases List.mem_append.1 hv with hv | hv
    · split at hv
      · rename_i hf
        obtain rfl : v = _ := by simpa using hv
        have := h2.2.1 hf; simp only; omega
      · simp at hv
    rcases List.mem_append.1 hv with hv | hv
    · split at hv
      · rename_i hf
        obtain rfl : v = _ := by simpa using hv
        have := h2.2.2.1 hf; simp only; omega
      · simp at hv
    · split at hv
      · rename_i hf
        obtain rfl : v = _ := by simpa using hv
        have := h2.2.2.1 (by unfold twB at hf; unfold toB; simp at hf ⊢; omega); simp only; omega
      · simp at hv
  have hto : ∀ j, j + 1 ≤ p.os.length → ∀ v ∈ pathTo t.os p.os j, 0 ≤ v.item ∧ v.item < (t.os.length : Int) + t.data ∧ 0 ≤ v.wait ∧ v.wait ≤ 12 := by
    intro j
    induction j with
    | zero => intro _ v hv; simp [pathTo] at hv
    | succ j ih =>
      intro hj v hv
      rcases List.mem_append.1 hv with hv | hv
      · exact ih (by omega) v hv
      · exact hstep j (by omega) v hv
  intro v hv
  rcases List.mem_append.1 hv with hv | hv
  · exact hto _ (by omega) v hv
  · obtain rfl : v = _ := by simpa using hv
    have h1 := hw.2.2.1 _ (lx_mem (l := p.os) (i := p.os.length - 1) (by omega))
    simp only; omega
theorem plan_ok {x : PD} (ht : x.t.Ok) (he : x.es.map (·.l) = openE x.t) (hc : ∀ y ∈ x.es, y.l.length ≤ y.c) : x.Ok := by
  have hl : x.es.length = x.t.ps.length := by have := congrArg List.length he; simpa [openE] using this
  have hy : ∀ y ∈ x.es, ∃ p ∈ x.t.ps, y.l = pathE x.t.os p.os := by
    intro y hy
    have : y.l ∈ openE x.t := he ▸ List.mem_map_of_mem hy
    obtain ⟨p, hp, e⟩ := List.mem_map.1 this
    exact ⟨p, hp, e.symm⟩
  refine ⟨ht.n1, ht.d1, ht.l1, ht.p1, ht.it, hl, fun p hp => (wildL_ok (ht.w p hp)).2.1, fun y h => ?_, fun y h => ?_⟩
  · obtain ⟨p, hp, e⟩ := hy y h
    have := pathE_len x.t.os p.os (wildL_ok (ht.w p hp)).1.2
    rw [← e] at this
    exact ⟨this.1, by omega, hc y h⟩
  · obtain ⟨p, hp, e⟩ := hy y h
    rw [e]; exact pathE_item ht hp
/-- what a layout of a task takes -/
def costL (t : TD) (lay : List Int) : Int := costT (fun i => (lx t.ps i).cnt) (fun i => lx (openE t) i) lay t.ps.length
theorem lx_map {α β : Type} [Inhabited α] [Inhabited β] {f : α → β} {l : List α} {i : Nat} (h : i < l.length) : lx (l.map f) i = f (lx l i) := by
  rw [lx_eq (by simpa using h), lx_eq h]; simp
theorem costT_congr {cnt cnt' : Nat → Int} {es es' : Nat → List Evt} {lay : List Int} : ∀ m, (∀ i, i < m → cnt i = cnt' i ∧ es i = es' i) → costT cnt es lay m = costT cnt' es' lay m
  | 0, _ => rfl
  | m + 1, h => by
    have h1 := h m (by omega)
    rw [costT, costT, costT_congr m (fun i hi => h i (by omega)), h1.1, h1.2]
theorem cost_eq {x : PD} (he : x.es.map (·.l) = openE x.t) (lay : List Int) : x.cost lay = costL x.t lay := by
  have hl : x.es.length = x.t.ps.length := by have := congrArg List.length he; simpa [openE] using this
  unfold PD.cost costL
  rw [hl]
  refine costT_congr _ fun i hi => ⟨rfl, ?_⟩
  rw [← he, lx_map (by omega)]
/-- the error of a layout of a task -/
def layL (t : TD) (lay : List Int) : Int := layE (t.os.length + t.data.toNat) t.lines lay
def costR (t : TD) (lay : List Int) : Int × Int := if ¬ (chkL t).2.2 = 0 then (0, (chkL t).2.2) else if ¬ layL t lay = 0 then (0, layL t lay) else (costL t lay, 0)
theorem layE_ok {n : Nat} {lines : Int} {lay : List Int} (h : layE n lines lay = 0) : lay.length = n ∧ (∀ a ∈ lay, 0 ≤ a ∧ a < lines * 16) ∧ ∀ i, i < lay.length → lx lay i ∉ lay.take i := by
  unfold layE at h
  split at h
  · cases h
  rename_i h0
  rcases firstBad_i (f := fun i => if outP (lx lay i) 0 (lines * 16 - 1) then 7 else if lx lay i ∈ lay.take i then 5 else 0) (n := lay.length) with ⟨_, h2⟩ | ⟨i, h1, _, _⟩
  · refine ⟨by omega, fun a ha => ?_, fun i hi => ?_⟩
    · obtain ⟨j, hj, rfl⟩ := List.mem_iff_getElem.1 ha
      have := h2 j hj
      simp only [lx_eq hj] at this
      split at this
      · cases this
      · rename_i h3; unfold outP at h3; omega
    · have := h2 i hi
      split at this
      · cases this
      split at this
      · cases this
      · assumption
  · rw [h1] at h; simp only at h; split at h <;> cases h
theorem Cost_v (t : TD) (lay : List Int) (al : Option Addr) (cl : Nat) (w : World) (hn : t.Len) (hT : t.At w) (hl : Rd icell 1 w al lay) (hll : lay.length ≤ 9223372036854775807 ∧ lay.length ≤ cl) :
    Calls Tryz.prog 13 #[.agg #[.slice t.ao t.os.length t.co, .int .i64 t.data, .int .i64 t.lines, .slice t.ap t.ps.length t.cp], .slice al lay.length cl] w (fun e w' => e = .returned (.tuple #[.int .i64 (costR t lay).1, .int .i64 (costR t lay).2]) ∧ Below w.heap.size w w') := by
  obtain ⟨⟨p, i, e⟩, hr⟩ : ∃ q : Int × Int × Int, q = chkL t := ⟨_, rfl⟩
  refine go_in Tryz.func13 rfl Tryz.ntmps13 [] [] (Mem.start _) ?_
  refine go ?_
  refine GoL.a (fun b1 => ?_)
  refine go ?_
  by_cases he : e = 0
  · subst he
    refine GoL.c (fun w' hw => open_ok t p i w' hn (hT.old hw) hr.symm) (fun x => ?_)
    obtain ⟨x, b⟩ := x
    refine GoL.pure (fun hx => ?_)
    dsimp only at hx ⊢
    obtain ⟨rfl, h1, h2⟩ := hx
    have hok := plan_ok (chkL_ok hr.symm) h1 h2
    refine go ?_
    refine GoL.cv (fun w' hw => pcheck_v x b lay al cl w' (hw.plan pk (hT.old hw)) hok (hw.old hl) hll) ?_
    refine go ?_
    refine go_if (fun h => ?_) (fun h => ?_)
    · refine go ?_
      refine ev2 ?_
      rw [costR, ← hr, if_neg (by simp), if_pos (show ¬ layL x.t lay = 0 from h)]
      exact ⟨rfl, rfl⟩
    · have h9 := hid (layE_ok h)
      have hl1 := hok.l1
      refine go ?_
      refine GoL.cv (fun w' hw => cost_v x b lay al cl w' (hw.plan pk (hT.old hw)) hok (hw.old hl) h9.out.1 (fun a ha => by have := h9.out.2.1 a ha; omega)) ?_
      refine go ?_
      refine ev2 ?_
      rw [costR, ← hr, if_neg (by simp), if_neg (show ¬ ¬ layL x.t lay = 0 from fun hh => hh h), cost_eq h1]
      exact ⟨rfl, rfl⟩
  · refine GoL.cv (fun w' hw => open_bad t p i e w' hn (hT.old hw) hr.symm he) ?_
    refine go ?_
    refine go_if (fun h => ?_) (fun h => ?_)
    rotate_left
    · exact absurd h he
    refine go ?_
    refine ev2 ?_
    rw [costR, ← hr, if_pos he]
    exact ⟨rfl, rfl⟩
end

section
set_option linter.all false
/-- the least multiple of 16 not below n -/
def upI (n : Int) : Int := (n + 15) - (n + 15) % 16
/-- the best of n0 and f w, w from z + 1 on, k of them, those that are like -/
def innB (sm : Nat → Bool) (f : Nat → Int) (n0 : Int) (z : Nat) : Nat → Int × Int
  | 0 => (n0, -1)
  | k + 1 => if sm (z + 1 + k) = true ∧ (innB sm f n0 z k).1 < f (z + 1 + k) then (f (z + 1 + k), ((z + 1 + k : Nat) : Int)) else innB sm f n0 z k
/-- the greatest of n0 and f z, z from a on, k of them, those that are like -/
def maxB (sm : Nat → Bool) (f : Nat → Int) (n0 : Int) (a : Nat) : Nat → Int
  | 0 => n0
  | k + 1 => if sm (a + k) = true then max (maxB sm f n0 a k) (f (a + k)) else maxB sm f n0 a k
theorem innB_congr {sm sm' : Nat → Bool} {f f' : Nat → Int} {n0 : Int} {z : Nat} : ∀ k, (∀ w, z < w → w ≤ z + k → sm w = sm' w ∧ (sm w = true → f w = f' w)) → innB sm f n0 z k = innB sm' f' n0 z k
  | 0, _ => rfl
  | k + 1, h => by
    have ih := innB_congr (n0 := n0) k fun w h1 h2 => h w h1 (by omega)
    have h1 := h (z + 1 + k) (by omega) (by omega)
    simp only [innB, ih, ← h1.1]
    by_cases hs : sm (z + 1 + k) = true
    · rw [h1.2 hs]
    · simp [hs]
theorem maxB_congr {sm sm' : Nat → Bool} {f f' : Nat → Int} {n0 : Int} {a : Nat} : ∀ k, (∀ z, a ≤ z → z < a + k → sm z = sm' z ∧ (sm z = true → f z = f' z)) → maxB sm f n0 a k = maxB sm' f' n0 a k
  | 0, _ => rfl
  | k + 1, h => by
    have ih := maxB_congr (n0 := n0) k fun w h1 h2 => h w h1 (by omega)
    have h1 := h (a + k) (by omega) (by omega)
    simp only [maxB, ih, ← h1.1]
    by_cases hs : sm (a + k) = true
    · rw [h1.2 hs]
    · simp [hs]
section
variable (it : Nat → Int)
/-- column y of the pairs' values: those of the last k events before y -/
def rcolK (d : Nat → Nat → Int) (y : Nat) : Nat → List Int
  | 0 => []
  | k + 1 => (if it (y - (k + 1)) = it y then upI (innB (fun w => decide (it w = it y)) (fun w => d (y - (k + 1)) w + lx (rcolK d y k) (w - (y - k))) (d (y - (k + 1)) (y - 1) + 1) (y - (k + 1)) k).1 else 0) :: rcolK d y k
def dcol (d : Nat → Nat → Int) (r : Nat → Int) (y : Nat) : List Int :=
  (List.range y).map fun a => maxB (fun z => decide (it z = it y)) (fun z => d a z + r z) (d a (y - 1) + 1) a (y - a)
def tabs : Nat → List (List Int) × List (List Int)
  | 0 => ([], [])
  | y + 1 => ((tabs y).1 ++ [dcol it (fun a z => lx (lx (tabs y).1 z) a) (lx (rcolK it (fun a z => lx (lx (tabs y).1 z) a) y y)) y], (tabs y).2 ++ [rcolK it (fun a z => lx (lx (tabs y).1 z) a) y y])
/-- the greatest value of events a and y -/
def Dv (a y : Nat) : Int := lx (lx (tabs it (y + 1)).1 y) a
/-- that of a pair -/
def Rv (z y : Nat) : Int := lx (lx (tabs it (y + 1)).2 y) z
end
section
variable {it : Nat → Int}
theorem tabs_len : ∀ m, (tabs it m).1.length = m ∧ (tabs it m).2.length = m
  | 0 => ⟨rfl, rfl⟩
  | m + 1 => by simp [tabs, (tabs_len m).1, (tabs_len m).2]
theorem lx_app_l {α : Type} [Inhabited α] {l l' : List α} {i : Nat} (h : i < l.length) : lx (l ++ l') i = lx l i := by simp [lx, List.getD_eq_getElem?_getD, List.getElem?_append_left h]
theorem lx_app_e {α : Type} [Inhabited α] {l : List α} {x : α} {i : Nat} (h : i = l.length) : lx (l ++ [x]) i = x := by subst h; simp [lx, List.getD_eq_getElem?_getD]
theorem tabs_at {y : Nat} : ∀ m, y < m → lx (tabs it m).1 y = lx (tabs it (y + 1)).1 y ∧ lx (tabs it m).2 y = lx (tabs it (y + 1)).2 y
  | 0, h => by omega
  | m + 1, h => by
    by_cases e : y = m
    · subst e; exact ⟨rfl, rfl⟩
    · have ih := tabs_at (y := y) m (by omega)
      have h1 := tabs_len (it := it) m
      refine ⟨Eq.trans ?_ ih.1, Eq.trans ?_ ih.2⟩
      · show lx ((tabs it m).1 ++ _) y = _
        exact lx_app_l (by rw [h1.1]; omega)
      · show lx ((tabs it m).2 ++ _) y = _
        exact lx_app_l (by rw [h1.2]; omega)
theorem tabs_D {m a y : Nat} (h : y < m) : lx (lx (tabs it m).1 y) a = Dv it a y := by rw [(tabs_at m h).1]; rfl
theorem Rcol_eq (y : Nat) : lx (tabs it (y + 1)).2 y = rcolK it (fun a z => lx (lx (tabs it y).1 z) a) y y := by
  rw [tabs, lx_app_e (tabs_len y).2.symm]
theorem Dcol_eq (y : Nat) : lx (tabs it (y + 1)).1 y = dcol it (fun a z => lx (lx (tabs it y).1 z) a) (Rv it · y) y := by
  rw [tabs, lx_app_e (tabs_len y).1.symm]
  show _ = dcol it _ (fun z => lx (lx (tabs it (y + 1)).2 y) z) y
  rw [Rcol_eq]
theorem rcolK_len {d : Nat → Nat → Int} {y : Nat} : ∀ k, (rcolK it d y k).length = k
  | 0 => rfl
  | k + 1 => by simp [rcolK, rcolK_len k]
theorem rcolK_at {d : Nat → Nat → Int} {y j : Nat} : ∀ k, j < k → k ≤ y → lx (rcolK it d y k) (k - 1 - j) = lx (rcolK it d y (j + 1)) 0
  | 0, h, _ => by omega
  | k + 1, h, hk => by
    by_cases e : j = k
    · subst e; simp
    · have ih := rcolK_at k (by omega) (by omega) (d := d) (y := y) (j := j)
      rw [← ih, show k + 1 - 1 - j = (k - 1 - j) + 1 by omega]
      rfl
theorem Rv_col {z y : Nat} (h : z < y) : Rv it z y = lx (rcolK it (fun a z => lx (lx (tabs it y).1 z) a) y (y - z)) 0 := by
  show lx (lx (tabs it (y + 1)).2 y) z = _
  rw [Rcol_eq]
  have := rcolK_at (it := it) (d := fun a z => lx (lx (tabs it y).1 z) a) (y := y) (j := y - z - 1) y (by omega) (Nat.le_refl _)
  rw [show y - 1 - (y - z - 1) = z by omega, show y - z - 1 + 1 = y - z by omega] at this
  exact this
theorem Rv_out {z y : Nat} (h : y ≤ z) : Rv it z y = 0 := by
  show lx (lx (tabs it (y + 1)).2 y) z = _
  rw [Rcol_eq]
  have : (rcolK it (fun a z => lx (lx (tabs it y).1 z) a) y y).length ≤ z := by rw [rcolK_len]; omega
  rw [lx, List.getD_eq_getElem?_getD, List.getElem?_eq_none this]; rfl
theorem Dv_out {a y : Nat} (h : y ≤ a) : Dv it a y = 0 := by
  show lx (lx (tabs it (y + 1)).1 y) a = _
  rw [Dcol_eq]
  have : (dcol it (fun a z => lx (lx (tabs it y).1 z) a) (Rv it · y) y).length ≤ a := by simp [dcol]; omega
  rw [lx, List.getD_eq_getElem?_getD, List.getElem?_eq_none this]; rfl
/-- what the pair of z and y takes -/
def innV (it : Nat → Int) (z y : Nat) : Int × Int := innB (fun w => decide (it w = it y)) (fun w => Dv it z w + Rv it w y) (Dv it z (y - 1) + 1) z (y - 1 - z)
theorem Rv_eq {z y : Nat} (h : z < y) : Rv it z y = if it z = it y then upI (innV it z y).1 else 0 := by
  rw [Rv_col h]
  obtain ⟨k, hk⟩ : ∃ k, y - z = k + 1 := ⟨y - z - 1, by omega⟩
  rw [hk]
  simp only [rcolK, show y - (k + 1) = z by omega]
  show (if it z = it y then upI (innB _ _ _ z k).1 else 0) = _
  have e1 : lx (lx (tabs it y).1 (y - 1)) z = Dv it z (y - 1) := tabs_D (by omega)
  rw [e1, innV, show y - 1 - z = k by omega]
  rw [innB_congr k fun w h1 h2 => ⟨rfl, fun _ => ?_⟩]
  rw [tabs_D (by omega), Rv_col (show w < y by omega)]
  have := rcolK_at (it := it) (d := fun a z => lx (lx (tabs it y).1 z) a) (y := y) (j := y - w - 1) k (by omega) (by omega)
  rw [show y - w - 1 + 1 = y - w by omega] at this
  rw [← this, show k - 1 - (y - w - 1) = w - (y - k) by omega]
theorem Dv_eq {a y : Nat} (h : a < y) : Dv it a y = maxB (fun z => decide (it z = it y)) (fun z => Dv it a z + Rv it z y) (Dv it a (y - 1) + 1) a (y - a) := by
  show lx (lx (tabs it (y + 1)).1 y) a = _
  rw [Dcol_eq, dcol]
  have : (List.range y)[a]? = some a := by simp [h]
  rw [lx, List.getD_eq_getElem?_getD, List.getElem?_map, this]
  simp only [Option.map_some, Option.getD_some]
  rw [tabs_D (by omega)]
  exact maxB_congr _ fun z h1 h2 => ⟨rfl, fun _ => by rw [tabs_D (by omega)]⟩
/- bounds -/
theorem upI_ge (n : Int) : n ≤ upI n ∧ upI n ≤ n + 15 := by unfold upI; omega
theorem innB_ge {sm : Nat → Bool} {f : Nat → Int} {n0 : Int} {z : Nat} : ∀ k, n0 ≤ (innB sm f n0 z k).1
  | 0 => Int.le_refl _
  | k + 1 => by
    have ih := innB_ge (sm := sm) (f := f) (n0 := n0) (z := z) k
    simp only [innB]; split
    · rename_i h; simp only; omega
    · exact ih
theorem innB_le {sm : Nat → Bool} {f : Nat → Int} {n0 B : Int} {z : Nat} (h0 : n0 ≤ B) : ∀ k, (∀ w, z < w → w ≤ z + k → f w ≤ B) → (innB sm f n0 z k).1 ≤ B
  | 0, _ => h0
  | k + 1, h => by
    have ih := innB_le (sm := sm) h0 k fun w h1 h2 => h w h1 (by omega)
    simp only [innB]; split
    · exact h _ (by omega) (by omega)
    · exact ih
theorem innB_from {sm : Nat → Bool} {f : Nat → Int} {n0 : Int} {z : Nat} : ∀ k, (innB sm f n0 z k).2 = -1 ∨ ∃ w : Nat, (innB sm f n0 z k).2 = (w : Int) ∧ z < w ∧ w ≤ z + k ∧ sm w = true
  | 0 => .inl rfl
  | k + 1 => by
    simp only [innB]; split
    · rename_i h; exact .inr ⟨z + 1 + k, rfl, by omega, by omega, h.1⟩
    · rcases innB_from (sm := sm) (f := f) (n0 := n0) (z := z) k with h | ⟨w, h1, h2, h3, h4⟩
      · exact .inl h
      · exact .inr ⟨w, h1, h2, by omega, h4⟩
theorem maxB_ge {sm : Nat → Bool} {f : Nat → Int} {n0 : Int} {a : Nat} : ∀ k, n0 ≤ maxB sm f n0 a k ∧ ∀ z, a ≤ z → z < a + k → sm z = true → f z ≤ maxB sm f n0 a k
  | 0 => ⟨Int.le_refl _, fun z h1 h2 => by omega⟩
  | k + 1 => by
    have ih := maxB_ge (sm := sm) (f := f) (n0 := n0) (a := a) k
    simp only [maxB]; split
    · refine ⟨by omega, fun z h1 h2 h3 => ?_⟩
      by_cases e : z = a + k
      · subst e; omega
      · have := ih.2 z h1 (by omega) h3; omega
    · rename_i hs
      refine ⟨ih.1, fun z h1 h2 h3 => ?_⟩
      by_cases e : z = a + k
      · subst e; exact absurd h3 hs
      · exact ih.2 z h1 (by omega) h3
theorem maxB_at {sm : Nat → Bool} {f : Nat → Int} {n0 : Int} {a : Nat} : ∀ k, maxB sm f n0 a k = n0 ∨ ∃ z, a ≤ z ∧ z < a + k ∧ sm z = true ∧ maxB sm f n0 a k = f z
  | 0 => .inl rfl
  | k + 1 => by
    have ih := maxB_at (sm := sm) (f := f) (n0 := n0) (a := a) k
    have key : ∀ v, v = n0 ∨ (∃ z, a ≤ z ∧ z < a + k ∧ sm z = true ∧ v = f z) → v = n0 ∨ ∃ z, a ≤ z ∧ z < a + (k + 1) ∧ sm z = true ∧ v = f z := by
      rintro v (h | ⟨z, h1, h2, h3, h4⟩)
      · exact .inl h
      · exact .inr ⟨z, h1, by omega, h3, h4⟩
    simp only [maxB]; split
    · rename_i hs
      rcases Int.le_total (maxB sm f n0 a k) (f (a + k)) with h | h
      · rw [Int.max_eq_right h]; exact .inr ⟨a + k, by omega, by omega, hs, rfl⟩
      · rw [Int.max_eq_left h]; exact key _ ih
    · exact key _ ih
/-- all values are from 0 to 16 for each event, and a pair takes at most 16 for each -/
theorem DR_bd : ∀ y, (∀ z, z < y → 0 ≤ Rv it z y ∧ Rv it z y ≤ 16 * ((y : Int) - z)) ∧ (∀ a, a < y → 0 ≤ Dv it a y ∧ Dv it a y ≤ 16 * ((y : Int) - a)) := by
  intro y
  induction y using Nat.strongRecOn with
  | ind y ih =>
    have hD : ∀ a w, w < y → 0 ≤ Dv it a w ∧ (a ≤ w → Dv it a w ≤ 16 * ((w : Int) - a)) := by
      intro a w hw
      by_cases h : a < w
      · have := (ih w hw).2 a h; exact ⟨this.1, fun _ => this.2⟩
      · rw [Dv_out (by omega)]; exact ⟨Int.le_refl _, fun _ => by omega⟩
    have hR : ∀ j z, y - z = j → z < y → 0 ≤ Rv it z y ∧ Rv it z y ≤ 16 * ((y : Int) - z) := by
      intro j
      induction j using Nat.strongRecOn with
      | ind j ij =>
        intro z hj hz
        rw [Rv_eq hz]
        split
        · have h1 : Dv it z (y - 1) + 1 ≤ (innV it z y).1 := innB_ge _
          have h2 := hD z (y - 1) (by omega)
          have h3 := upI_ge (innV it z y).1
          refine ⟨by omega, ?_⟩
          have h2' := h2.2 (by omega)
          by_cases hy : z + 1 = y
          · -- neighbours: only what lies between
            have e : (innV it z y).1 = Dv it z (y - 1) + 1 := by rw [innV, show y - 1 - z = 0 by omega]; rfl
            rw [e] at h3 ⊢
            rw [Dv_out (by omega)] at h3 ⊢
            omega
          · have h4 : (innV it z y).1 ≤ 16 * ((y : Int) - z) := by
              refine innB_le (by omega) _ fun w h1 h2 => ?_
              have h5 := (hD z w (by omega)).2 (by omega)
              have h6 := (ij (y - w) (by omega) w rfl (by omega)).2
              omega
            -- a multiple of 16
            unfold upI at h3 ⊢; omega
        · omega
    refine ⟨fun z hz => hR _ z rfl hz, fun a ha => ?_⟩
    rw [Dv_eq ha]
    have h1 := hD a (y - 1) (by omega)
    have h1' := h1.2 (by omega)
    have h2 := (maxB_ge (sm := fun z => decide (it z = it y)) (f := fun z => Dv it a z + Rv it z y) (n0 := Dv it a (y - 1) + 1) (a := a) (y - a)).1
    refine ⟨by omega, ?_⟩
    rcases maxB_at (sm := fun z => decide (it z = it y)) (f := fun z => Dv it a z + Rv it z y) (n0 := Dv it a (y - 1) + 1) (a := a) (y - a) with h | ⟨z, h3, h4, h5, h6⟩
    · rw [h]; omega
    · rw [h6]
      have h7 := (hD a z (by omega)).2 h3
      have h8 := (hR _ z rfl (by omega)).2
      omega
end
end


end Go.Proofs.YtigehmghcafblaaGreat
