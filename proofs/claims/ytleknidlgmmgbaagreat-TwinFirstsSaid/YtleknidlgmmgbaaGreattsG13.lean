/- General lemmas: an entry of a map, read and stored behind (known[k] = append(known[k], ..)). -/
import Derived.Test.YtleknidlgmmgbaaGreattsG7
import Derived.Maps.OwnSet
import Derived.Sort.Grow
import Derived.WideKeyEntry
set_option linter.all false
namespace Go.Proofs.YtleknidlgmmgbaaGreat

section
open Go.RowKit

abbrev rawR : Value → Option (DataW Value × List MemPlace) := fun v => some (.held v, [])
section
variable {P : Program} {κ : Type} [DecidableEq κ]
/-- block b is a map of at most n entries; at the key of x lies g x -/
def MapV (P : Program) (kt : TypeId) (kv : κ → Value) (w : World) (b n : Nat) (g : κ → Option Value) : Prop :=
  ∃ D : DataW Value, w.ownsMap P kt rawR b n D ∧ Maps.IsMap D ∧ ∀ x kl, keyOf P kt (kv x) = some kl → ∀ zd, D.atKey kl zd = (match g x with | some v => .held v | none => zd)
variable {kt T E : TypeId} {kv : κ → Value} {w w' : World} {b n : Nat} {g : κ → Option Value}
theorem MapV.made (w : World) : MapV P kt kv (w.alloc (.map #[] 0)) w.heap.size 0 (fun _ => none) :=
  ⟨_, World.ownsMap_made _ _ _ _, ⟨_, rfl⟩, fun _ _ _ _ => rfl⟩
theorem MapV.lt (h : MapV P kt kv w b n g) : b < w.heap.size := by obtain ⟨D, h1, _⟩ := h; exact h1.lt
theorem MapV.same (h : MapV P kt kv w b n g) (hb : w'.heap[b]? = w.heap[b]?) : MapV P kt kv w' b n g := by
  obtain ⟨D, ⟨es, clock, h1, h2⟩, h3⟩ := h
  exact ⟨D, ⟨es, clock, hb.trans h1, h2⟩, h3⟩
theorem MapV.at (h : MapV P kt kv w b n g) (hb : Below w.heap.size w w') : MapV P kt kv w' b n g := h.same (hb.block b h.lt)
theorem MapV.oldB {Bs : List Nat} (h : MapV P kt kv w b n g) (ho : OldB Bs w w') (hb : b ∉ Bs) : MapV P kt kv w' b n g := h.same (ho.block b h.lt hb)
theorem MapV.grown (h : MapV P kt kv w b n g) {v : Value} (hg : w.grownBy w' v.ownBlock) (hv : v.ownBlock ≠ some b) : MapV P kt kv w' b n g := h.same (hg.block b h.lt (fun e => hv e.symm))
theorem MapV.mono (h : MapV P kt kv w b n g) {m : Nat} (hm : n ≤ m) : MapV P kt kv w b m g := by
  obtain ⟨D, h1, h3⟩ := h
  exact ⟨D, h1.mono hm, h3⟩
theorem MapV.has (h : MapV P kt kv w b n g) (K : Maps.Keyed P kt) (ht : P.underlying T = some (.map kt E)) {z : Value} (hz : (zeroValue E).run P w = .ok z w) {x : κ} {kl : Lit} (hk : keyOf P kt (kv x) = some kl) (c : Bool) :
    (Instr.lookup T (.map (some b)) (kv x) c).run P w = .ok (if c then .tuple #[(g x).getD z, .bool (g x).isSome] else (g x).getD z) w := by
  obtain ⟨D, h1, _, h3⟩ := h
  have h4 := h3 x kl hk
  have e1 : ∀ {v : Value} {ps : List MemPlace}, rawR v = some (D.atKey kl (.held z), ps) → v = (g x).getD z := by
    intro v ps hv
    have hv' := congrArg (fun o => o.map Prod.fst) hv
    simp only [rawR, Option.map_some, h4, Option.some.injEq] at hv'
    cases hg : g x with
    | none => rw [hg] at hv'; simpa using hv'
    | some y => rw [hg] at hv'; simpa using hv'
  cases c with
  | false =>
    obtain ⟨v, ps, hr, hv⟩ := h1.lookup K ht hz (zd := .held z) (zp := []) rfl hk
    rw [hr, e1 hv]; rfl
  | true =>
    obtain ⟨v, ps, hr, hv⟩ := h1.look_ok K ht hz (zd := .held z) (zp := []) rfl hk
    have e2 : Maps.has D kl = (g x).isSome := by
      cases hg : g x with
      | none => rw [hg] at h4; exact Maps.has_false_of_atKey h4
      | some y => rw [hg] at h4; exact Maps.has_true_of_atKey h4
    rw [hr, e1 hv, e2]; rfl
theorem MapV.put (h : MapV P kt kv w b n g) (K : Maps.Keyed P kt) (ht : P.underlying T = some (.map kt E)) (hn : n < 9223372036854775807) (hinj : ∀ x y : κ, kv x = kv y → x = y) {x : κ} {kl : Lit} (hk : keyOf P kt (kv x) = some kl) (v : Value) :
    ∃ w', (Instr.mapUpdate T (.map (some b)) (kv x) v).run P w = .ok () w' ∧ MapV P kt kv w' b (n + 1) (fun y => if y = x then some v else g y) ∧ OldB [b] w w' := by
  obtain ⟨D, h1, h2, h3⟩ := h
  obtain ⟨w', hr, ho, hg⟩ := h1.update K ht (show n < maxLen by unfold maxLen; omega) hk (d := .held v) (ps := []) (val := v) rfl
  refine ⟨w', hr, ⟨_, ho, h2.put _ _, ?_⟩, ⟨hg.os, hg.tape, hg.output, hg.size, fun k hk hn => hg.block k hk (fun e => hn (by simpa using e))⟩⟩
  intro y kl' hk' zd
  simp only
  by_cases e : y = x
  · subst e
    rw [hk] at hk'; cases hk'
    simp only [if_pos]; rw [Maps.atKey_put_same h2 (K.key hk)]
  · simp only [if_neg e]; rw [Maps.atKey_put_other (fun e2 => e (hinj _ _ (K.inj (by rw [hk', e2]) hk)))]
    exact h3 y kl' hk' zd
end

section
variable {P : Program} {o : Oper} {n d : Nat} {s : Nat → Value} {w : World} {K' : Value → World → Prop} {κ : Type} [DecidableEq κ] {kt T E : TypeId} {kv : κ → Value} {b k : Nat} {g : κ → Option Value}
theorem opF_look (hd : o.dst = some d) (hn : d < n) (m y : Operand) (c : Bool) (ho : o.op = .lookup T m y c) (K : Maps.Keyed P kt) (ht : P.underlying T = some (.map kt E)) {z : Value} (hz : (zeroValue E).run P w = .ok z w) (h : MapV P kt kv w b k g)
    (x : κ) (hm : evF n s m = .map (some b)) (hy : evF n s y = kv x) {kl : Lit} (hk : keyOf P kt (kv x) = some kl) (hK : K' (if c then .tuple #[(g x).getD z, .bool (g x).isSome] else (g x).getD z) w) : opF P o n s w K' := by
  refine opF_of_wp hd hn (fun K1 Q hK1 => ?_)
  unfold Oper.wp execOp
  simp only [ho, Sem.run_bind, Sem.run_pure, Result.andThen_ok, mkA_eval, hm, hy, h.has K ht hz hk c]
  exact hK1 _ _ hK
theorem opF_makeMap (hd : o.dst = some d) (hn : d < n) (ho : o.op = .makeMap T none)
    (hK : ∀ w', MapV P kt kv w' w.heap.size 0 (fun _ => none) → Below w.heap.size w w' → K' (.map (some w.heap.size)) w') : opF P o n s w K' := by
  refine opF_of_wp hd hn (fun K1 Q hK1 => ?_)
  unfold Oper.wp execOp
  simp only [ho, Option.map_none, Sem.run_bind, run_makeMap, Sem.run_pure, Result.andThen_ok]
  exact hK1 _ _ (hK _ (MapV.made w) (below_alloc1 _ _))
theorem opF_put (m y v : Operand) (ho : o.op = .mapUpdate T m y v) (K : Maps.Keyed P kt) (ht : P.underlying T = some (.map kt E)) (h : MapV P kt kv w b k g) (hk9 : k < 9223372036854775807) (hinj : ∀ x y : κ, kv x = kv y → x = y)
    (x : κ) (hm : evF n s m = .map (some b)) (hy : evF n s y = kv x) {kl : Lit} (hk : keyOf P kt (kv x) = some kl)
    (hK : ∀ w', MapV P kt kv w' b (k + 1) (fun y => if y = x then some (evF n s v) else g y) → OldB [b] w w' → K' undef w') : opF P o n s w K' := by
  obtain ⟨w', hr, h1, h2⟩ := h.put K ht hk9 hinj hk (evF n s v)
  unfold opF execOp
  simp only [ho, hm, hy, Sem.run_bind, Sem.run_pure, hr, Result.andThen_ok]
  exact hK w' h1 h2
end

/-- a range over a function of ours; rounds may return -/
theorem wp_range_r {P : Program} {α : Type} {g : Operand} {ps : Array Tmp} {assign body : Code} {Q : Exit → Act → World → Prop} {a : Act} {w : World} {gf : Nat} {lb : Array Value} (enc : α → Array Value)
    (hg : a.eval g = .func (.func gf) #[] lb) (eg : ∀ args w, (callFunc gf args).run P w = .ok (.enter gf args) w) (hps : ∀ x, (enc x).size = ps.size)
    (J : List α → World → Prop) (M : List α → α → World → Prop) (Fin : List α → Prop) (Dn : World → Prop)
    (hJ : ∀ pre W r r', J pre W → LoopAt W w.heap.size r → J pre (W.putObj (w.heap.size + 1) (.loop r')))
    (hD : ∀ W r r', Dn W → LoopAt W w.heap.size r → Dn (W.putObj (w.heap.size + 1) (.loop r')))
    (h0 : ∀ r, J [] ((w.alloc (.deferred (some []))).alloc (.loop r)))
    (hiter : ∀ (r r' : Loop) (W : World), J [] W → LoopAt W w.heap.size r →
      (∀ pre x W1, M pre x W1 → LoopAt W1 w.heap.size r → YieldAt Fence.wide 0 P (w.heap.size + 1) (enc x) W1 fun e W' => (e = .returned (.bool true) ∧ J (pre ++ [x]) W' ∧ LoopAt W' w.heap.size r) ∨ (e = .returned (.bool false) ∧ Dn W' ∧ LoopAt W' w.heap.size r')) →
      Calls P gf (#[.func (.yield (w.heap.size + 1)) #[] #[]] ++ lb) W fun e W' => (∃ v, e = .returned v) ∧ ((∃ xs, J xs W' ∧ Fin xs ∧ LoopAt W' w.heap.size r) ∨ (Dn W' ∧ LoopAt W' w.heap.size r')))
    (hround : ∀ pre x W r, M pre x W → LoopAt W w.heap.size r →
      assign.wpIn (Fence.wide.inRound (w.heap.size + 1)) 0 P (Exit.then (fun a₁ W₁ => LoopAt W₁ w.heap.size r ∧ ∀ r', body.wpIn (Fence.wide.inRound (w.heap.size + 1)) 0 P (fun e _ W' => (e = .normal ∧ J (pre ++ [x]) W' ∨ e = .ret ∧ Dn W') ∧ LoopAt W' w.heap.size r') a₁ (W₁.putObj (w.heap.size + 1) (.loop r'))) (fun _ _ _ => False))
        { tmps := (ps.zip (enc x)).foldl (fun t (p, v) => t.setIfInBounds p v) a.tmps, defers := [] } W)
    (hdone : ∀ xs W, J xs W → Fin xs → W.heap[w.heap.size]? = some (.deferred (some [])) → Q .normal { a with defers := { target := .collected w.heap.size, args := #[] } :: a.defers } W)
    (hleave : ∀ W, Dn W → W.heap[w.heap.size]? = some (.deferred (some [])) → Q .ret { a with defers := { target := .collected w.heap.size, args := #[] } :: a.defers } W) :
    (Code.rangeFunc g ps assign body).wp P Q a w := by
  refine (wpIn_wide (n := 0)).1 (wpIn_rangeFunc ?_)
  intro fn hfn
  let rec0 : Loop := { state := .ready, pending := none, fn := fn, tmps := a.tmps, params := ps, assign := assign, body := body, defers := w.heap.size }
  let recD : Loop := { rec0 with state := .done, pending := some .ret }
  let W1 : World := (w.alloc (.deferred (some []))).alloc (.loop rec0)
  have hL1 : LoopAt W1 w.heap.size rec0 := by
    refine ⟨?_, ?_⟩
    · have := World.alloc_heap_new (w.alloc (.deferred (some []))) (.loop rec0)
      rwa [World.size_alloc] at this
    · exact (Below.heap_alloc _ _ _ (by simp)).trans (World.alloc_heap_new w _)
  refine ⟨w.heap.size + 1, [{ target := .collected w.heap.size, args := #[] }], W1, { target := .fn (.func gf) lb, args := #[.func (.yield (w.heap.size + 1)) #[] #[]] }, W1, gf,
    #[.func (.yield (w.heap.size + 1)) #[] #[]] ++ lb, W1, run_enterLoop_outer _ _ _ _ _, ?_, fun _ _ => trivial, ?_, fun h => (by simp [Fence.wide] at h), ?_⟩
  · simp only [resolve, hg]
    simp [go_sem]
  · simp [invoke, go_sem, eg]
  · refine callsIn_wide.2 ((hiter rec0 recD W1 (h0 rec0) hL1 ?_).mono ?_)
    · intro pre x W hm hl
      refine ⟨fn, _, assign, body, run_yield (P := P) (args := enc x) hl.1 (by show _ = ps.size; exact hps x), roundIn_of_wpIn trivial ?_⟩
      refine wpIn_mono (hround pre x W rec0 hm hl) ?_
      intro e a1 W2 h
      cases e with
      | normal =>
        obtain ⟨hl2, hb⟩ := h
        refine ⟨_, run_beginRound hl2.1 rfl, wpIn_mono (hb _) ?_⟩
        rintro e a3 W3 ⟨⟨rfl, hj3⟩ | ⟨rfl, hd3⟩, hl3⟩
        · exact ⟨_, _, run_endRound none hl3.1, .inl ⟨rfl, hJ _ _ _ _ hj3 hl3, hl3.put⟩⟩
        · exact ⟨_, _, run_endRound (some .ret) hl3.1, .inr ⟨rfl, hD _ _ _ hd3 hl3, hl3.put⟩⟩
      | exit id => exact h
      | goto t => exact h
      | ret => exact h
      | panic ch => exact h
      | outgrown => exact h
    · rintro e W2 ⟨⟨v, rfl⟩, ⟨xs, hj, hf, hl⟩ | ⟨hd, hl⟩⟩
      · exact ⟨none, _, run_endLoop (P := P) hl.1 (by show LoopState.ready ≠ LoopState.busy; decide), hdone xs _ (hJ _ _ _ _ hj hl) hf ((World.putObj_heap_other (by omega)).trans hl.2)⟩
      · refine ⟨some .ret, _, run_endLoop (P := P) hl.1 (by show LoopState.done ≠ LoopState.busy; decide), ?_⟩
        exact wpIn_ret (hleave _ (hD _ _ _ hd hl) ((World.putObj_heap_other (by omega)).trans hl.2))

theorem yield_mono {F : Fence} {m : Nat} {P : Program} {l : Nat} {args : Array Value} {W : World} {R R' : Ending → World → Prop} (h : YieldAt F m P l args W R) (hr : ∀ e w, R e w → R' e w) : YieldAt F m P l args W R' := by
  obtain ⟨fn, tmps, assign, body, h1, h2⟩ := h
  exact ⟨fn, tmps, assign, body, h1, RoundIn.mono h2 hr⟩
theorem LoopAt.oldB {W W' : World} {l : Nat} {r : Loop} {Bs : List Nat} (h : LoopAt W l r) (ho : OldB Bs W W') (hb : ∀ b ∈ Bs, b ≠ l ∧ b ≠ l + 1) : LoopAt W' l r :=
  ⟨(ho.block _ (Array.getElem?_eq_some_iff.1 h.1).1 (fun hm => (hb _ hm).2 rfl)).trans h.1, (ho.block _ (Array.getElem?_eq_some_iff.1 h.2).1 (fun hm => (hb _ hm).1 rfl)).trans h.2⟩
theorem wpIn_abs {P : Program} {F : Fence} {m n : Nat} {c : Code} {Q : Exit → Act → World → Prop} {ds : List Deferred} {S : Nat → Value} {w : World} (h : ∀ s', s' = S → c.wpIn F m P Q (mkA n s' ds) w) : c.wpIn F m P Q (mkA n S ds) w := h S rfl
theorem callQ {P : Program} {f : FuncId} {args : Array Value} {w0 w : World} {v : Value} (h : Calls P f args w fun e w' => e = .returned v ∧ Below w.heap.size w w') (hb : Below w0.heap.size w0 w) : Calls P f args w fun e w'' => e = .returned v ∧ Below w0.heap.size w0 w'' :=
  h.mono fun _ _ h => ⟨h.1, hb.trans (h.2.mono hb.size)⟩
theorem oldB_grown {w w' : World} {row : Option Nat} {Bs : List Nat} (hg : w.grownBy w' row) (hr : ∀ g, row = some g → g ∈ Bs) : OldB Bs w w' :=
  ⟨hg.os, hg.tape, hg.output, hg.size, fun k hk hn => hg.block k hk (fun e => hn (hr k e.symm))⟩
theorem Rd.oldN {α : Type} {f : α → List Value} {m : Nat} {w w' : World} {Bs : List Nat} {a : Option Addr} {l : List α} (h : Rd f m w a l) (ho : OldB Bs w w') (hn : l ≠ [] → ∀ b, a = some b → b.block ∉ Bs) : Rd f m w' a l := by
  by_cases e : l = []
  · exact .inl e
  · exact Rd.oldB h ho (hn e)
theorem hmf (fn : Fn) (first cap : Array Value) (w : World) : (Instr.makeFunc fn first cap).run Tryz.prog w = .ok (.func fn first cap) w := rfl
end

section
open Go.RowKit

section
variable {ds : List Deferred}
theorem cond_EI {P : Program} {m t : Nat} {F : Fence} {x y : Code} {n : Nat} {Q : Exit → Act → World → Prop} {s : Nat → Value} {w : World} {E : Bool} (hc : s t = .bool E) (ht : t < n)
    (h1 : E = true → s t = .bool true → x.wpIn F m P Q (mkA n s ds) w) (h2 : E = false → s t = .bool false → y.wpIn F m P Q (mkA n s ds) w) : (Code.cond (.tmp t) x y).wpIn F m P Q (mkA n s ds) w := by
  cases E with
  | true => exact wpIn_cond (t := true) (by rw [mkA_eval]; simp [evF, ht, hc]) (by simpa using h1 rfl hc)
  | false => exact wpIn_cond (t := false) (by rw [mkA_eval]; simp [evF, ht, hc]) (by simpa using h2 rfl hc)
theorem then_n {K : Act → World → Prop} {Q : Exit → Act → World → Prop} {a : Act} {w : World} (h : K a w) : Exit.then K Q .normal a w := h
theorem then_x {K : Act → World → Prop} {Q : Exit → Act → World → Prop} {a : Act} {w : World} {id : Nat} (h : Q (.exit id) a w) : Exit.then K Q (.exit id) a w := h
theorem then_r {K : Act → World → Prop} {Q : Exit → Act → World → Prop} {a : Act} {w : World} (h : Q .ret a w) : Exit.then K Q .ret a w := h
theorem inB_n {id : Nat} {Q : Exit → Act → World → Prop} {a : Act} {w : World} (h : Q .normal a w) : Exit.inBlock id Q .normal a w := h
theorem inB_x {id : Nat} {Q : Exit → Act → World → Prop} {a : Act} {w : World} (h : Q .normal a w) : Exit.inBlock id Q (.exit id) a w := by simp [Exit.inBlock, h]
theorem inB_r {id : Nat} {Q : Exit → Act → World → Prop} {a : Act} {w : World} (h : Q .ret a w) : Exit.inBlock id Q .ret a w := h
theorem out_then {K : Act → World → Prop} {Q : Exit → Act → World → Prop} (h : ¬ LetsOut Q) : ¬ LetsOut (Exit.then K Q) := fun ⟨a, w, hz⟩ => h ⟨a, w, hz⟩
theorem out_inB {id : Nat} {Q : Exit → Act → World → Prop} (h : ¬ LetsOut Q) : ¬ LetsOut (Exit.inBlock id Q) := fun ⟨a, w, hz⟩ => h ⟨a, w, hz⟩
end

section
variable {ds : List Deferred}
variable {P : Program} {l : List Oper} {n : Nat} {w0 : World} {Bs rs : List Nat} {K : (Nat → Value) → World → Prop} {ks : List OK} {vs : List (Ad → Value)} {cs : List (Ad → List Value)} {s0 : Nat → Value} {d0 : Nat → List Value}
theorem regionR_FI {m : Nat} {ρ : Option Nat} {id : Nat} {Q : Exit → Act → World → Prop} {s : Nat → Value} {w : World} (Bs : List Nat) (bc : List (List Value)) (rs : List Nat) (ks : List OK) (vs : List (Ad → Value)) (cs : List (Ad → List Value))
    (hm : P.follows .mixedOrders = true) (hb : backB l.toArray = true) (hdn : dstB l.toArray (List.range n) = true) (hchk : chkR l ks Bs.length = true) (hrs : rsOk ks l.length Bs.length rs = true)
    (hN : Bs.Nodup) (hB : ∀ k b, Bs[k]? = some b → Cells w b (bc.getD k []))
    (hw : walkR P ks l.toArray n w.drew Bs rs (fun s w => Q .normal (mkA n s ds) w) 0 l ks vs cs (fun _ => s) (fun _ r => bc.getD (r - l.length) []))
    (hdep : depR l.length (Region.before l.toArray) 0 vs cs) (hq : ¬ LetsOut Q) (hnd : noDefer l = true) : (Code.region id l.toArray true).wpIn (Fw ρ) m P Q (mkA n s ds) w := by
  have hc := chk_of hchk
  have hBl : ∀ b ∈ Bs, b < w.drew.heap.size := by
    intro b hb
    obtain ⟨k, hk, rfl⟩ := List.mem_iff_getElem.1 hb
    exact (hB k Bs[k] (by simp [hk])).1
  obtain ⟨g1, g2⟩ := walkR_get (l := l) (ks := ks) (vs := vs) (cs := cs) (s0 := s) (d0 := fun r => bc.getD (r - l.length) []) (kk := ks) ks.length 0 (by omega) hw
  let J : (Nat → Bool) → (Nat → Value) → World → Prop := fun L s' w' => (∃ X, J1 l n w.drew Bs ks vs cs s (fun r => bc.getD (r - l.length) []) X L s' w') ∨ J2 P l n ks.length (fun s w => Q .normal (mkA n s ds) w) L s' w'
  have hstep2 : ∀ (i : Nat) (o : Oper) (L : Nat → Bool) (s' : Nat → Value) (w' : World), l[i]? = some o → L i = false → (∀ j, j < i → L j = true) → J2 P l n ks.length (fun s w => Q .normal (mkA n s ds) w) L s' w' → ∀ Kv : Value → World → Prop, (∀ v w1, J (upd L i) (updS s' o.dst v) w1 → Kv v w1) → if Region.wanted o (yielded l.toArray (tmA n s')) then opF P o n s' w' Kv else Kv undef w' := by
    intro i o L s' w' ho hL hlow ⟨k, hk1, hk2, hk3, s2, hs2, hl2⟩ Kv hK
    have hik : i = k := by
      have h1 := hk3 i
      rw [hL] at h1
      have : ¬ i < k := by simpa using h1.symm
      rcases Nat.lt_or_ge k i with h2 | h2
      · have := hlow k h2
        rw [hk3 k] at this; simp at this
      · omega
    subst hik
    have hil : i < l.length := (List.getElem?_eq_some_iff.1 ho).1
    rw [List.drop_eq_getElem_cons hil] at hl2
    have e : l[i] = o := by rw [List.getElem?_eq_getElem hil] at ho; exact Option.some.inj ho
    rw [e] at hl2
    refine listF_congr hs2 Kv (fun v w1 h => hK v w1 (.inr ⟨i + 1, by omega, by omega, fun j => ?_, updS s2 o.dst v, upd_agree hs2 _ _, h⟩)) hl2
    by_cases hj : j = i
    · subst hj; simp [upd]
    · rw [upd_ne hj, hk3 j]
      by_cases h : j < i
      · simp [h]; omega
      · simp [h]; omega
  refine regionI_FI J hq hnd hm hb hdn ?_ ?_ (invF_of l 0 ?_)
  · -- the start
    let X0 : Ad := fun r => if r < l.length then w.heap.size + r else Bs.getD (r - l.length) 0
    refine .inl ⟨X0, ?_, ⟨rfl, rfl, rfl, Nat.le_refl _, fun _ _ _ => rfl⟩, fun _ h => (by cases h), fun _ _ h => (by cases h), fun _ h => (by cases h), ?_, fun _ _ h => (by cases h), fun d hd _ => if_pos hd⟩
    · refine ⟨fun i hi => ?_, fun i j hi hj hne => ?_, fun k b hk => ?_⟩
      · have := isA_lt hi; have := hc.le
        show w.heap.size ≤ if i < l.length then w.heap.size + i else _
        rw [if_pos (by omega)]; omega
      · have := isA_lt hi; have := isA_lt hj; have := hc.le
        show (if i < l.length then w.heap.size + i else _) ≠ if j < l.length then w.heap.size + j else _
        rw [if_pos (by omega), if_pos (by omega)]; omega
      · show (if l.length + k < l.length then _ else Bs.getD (l.length + k - l.length) 0) = b
        rw [if_neg (by omega), show l.length + k - l.length = k by omega, List.getD_eq_getElem?_getD, hk]; rfl
    · intro r hr
      rcases hr with ⟨h, _⟩ | ⟨h1, h2⟩
      · cases h
      · have hk : r - l.length < Bs.length := by omega
        have e : X0 r = Bs[r - l.length] := by
          show (if r < l.length then _ else Bs.getD (r - l.length) 0) = _
          rw [if_neg (by omega), List.getD_eq_getElem?_getD, List.getElem?_eq_getElem hk]; rfl
        rw [e, cnL_skip (i := 0) ks.length (Nat.zero_le _) fun _ _ _ _ => rfl]
        exact (hB (r - l.length) _ (List.getElem?_eq_getElem hk)).drew
  · -- the end
    intro s' w' hJ
    have hend : J2 P l n ks.length (fun s w => Q .normal (mkA n s ds) w) (fun j => decide (j < l.length)) s' w' := by
      rcases hJ with ⟨X, hJ⟩ | hJ
      · exact hJ.fin hc hrs g2 fun j hj => by have := hc.le; simp; omega
      · exact hJ
    obtain ⟨k, hk1, hk2, hk3, s2, hs2, hl2⟩ := hend
    have : k = l.length := by
      have h1 := hk3 k
      simp only [Nat.lt_irrefl, decide_false, decide_eq_false_iff_not] at h1
      omega
    subst this
    rw [List.drop_length] at hl2
    rw [mkA_congr hs2]
    exact hl2
  · -- an operation
    intro i o ho L s' w' hL hd hJ Kv hK
    rw [Nat.zero_add] at hL
    simp only [Nat.zero_add] at hK
    by_cases him : i < ks.length
    · rcases hJ with ⟨X, hJ⟩ | hJ
      · exact looks_step hc hdep hBl hN (g1 i (Nat.zero_le _) him) hJ ho hL hd Kv fun X v w1 h => hK v w1 (.inl ⟨X, h⟩)
      · obtain ⟨k, hk1, _, hk3, _⟩ := hJ
        rw [hk3 i] at hL
        simp at hL; omega
    · have hil : i < l.length := (List.getElem?_eq_some_iff.1 ho).1
      rcases hJ with ⟨X, hJ⟩ | hJ
      · have hlow : ∀ j, j < i → L j = true := by
          intro j hj
          have ha := hc.tail i j hil (by omega) hj
          obtain ⟨e, he, hb', hor⟩ := hc.anc i j o ho ha
          rcases hor with rfl | hor
          · exact hd e he hb'
          · exact hJ.cl e.on j (hd e he hb') hor
        exact hstep2 i o L s' w' ho hL hlow (hJ.fin hc hrs g2 fun j hj => hlow j (by omega)) Kv hK
      · have hJ' := hJ
        obtain ⟨k, hk1, hk2, hk3, _⟩ := hJ'
        have hlow : ∀ j, j < i → L j = true := by
          intro j hj
          have ha := hc.tail i j hil (by omega) hj
          obtain ⟨e, he, hb', hor⟩ := hc.anc i j o ho ha
          have hon := hd e he hb'
          rcases hor with rfl | hor
          · exact hon
          · rw [hk3] at hon ⊢
            simp only [decide_eq_true_eq] at hon ⊢
            have := hc.lt e.on j (by omega) hor
            omega
        exact hstep2 i o L s' w' ho hL hlow hJ Kv hK
end
end

section
open Go.RowKit

section
variable {P : Program} {n : Nat} {s : Nat → Value} {w : World} {Q : Exit → Act → World → Prop} {ds : List Deferred} {o : Oper}
/-- a call of yield with whatever values -/
theorem yield_inA {ops : Array Oper} {os : List Oper} {l d : Nat} {vs : Array Value} {R : Ending → World → Prop} (hg : o.guard = none) (hd : ∀ c, o.op ≠ .defer c) (hdst : o.dst = some d)
    (hr : (execOp (evF n s) o).run P w = (Instr.yield l vs).run P w) (hy : YieldAt Fence.wide 0 P l vs w R)
    (hk : ∀ e w', R e w' → ∃ x, e = .returned x ∧ wpListIn (Fw none) 0 P ops Q os (mkA n (updS s (some d) x) ds) w') : wpListIn (Fw none) 0 P ops Q (o :: os) (mkA n s ds) w := by
  obtain ⟨fn, tmps, assign, body, h1, h2⟩ := hy
  unfold wpListIn
  rw [if_pos (by simp [Region.wanted, hg])]
  refine ⟨fun _ _ => trivial, ?_⟩
  show o.uponIn (Fw none) 0 P (mkA n s ds) _ Q ((o.semAt none (mkA n s ds).eval).run P w)
  rw [semAt_any hd, mkA_eval, hr, h1, Oper.uponIn_round]
  refine ⟨fun h => (by simp [Fw, Fence.wide] at h), RoundIn.mono (R := R) ?_ ?_⟩
  · exact h2
  · intro e w' hR
    obtain ⟨x, rfl, hx⟩ := hk e w' hR
    show wpListIn (Fw none) 0 P ops Q os ((mkA n s ds).put o.dst x) w'
    rw [hdst, mkA_put]; exact hx
theorem zip2 {α β : Type} (k k2 : α) (v v2 : β) : (#[k, k2].zip #[v, v2]) = #[(k, v), (k2, v2)] := by simp [Array.zip]
theorem foldl2 {α β : Type} (f : β → α → β) (b : β) (x y : α) : Array.foldl f b #[x, y] 0 (#[x, y] : Array α).size = f (f b x) y := by simp
theorem tm_put (n : Nat) (s : Nat → Value) (d : Nat) (v : Value) : (tmA n s).setIfInBounds d v = tmA n (updS s (some d) v) := congrArg Act.tmps (mkA_fold (ds := []) n s d v)
theorem oldB_put {w : World} {k : Nat} {o : Obj} : OldB [k] w (w.putObj k o) := ⟨rfl, rfl, rfl, by rw [World.putObj_size]; exact Nat.le_refl _, fun b _ hn => World.putObj_heap_other (by simpa using hn)⟩
end
end

section
open Go.RowKit

section
variable {P : Program} {l : List Oper} {n : Nat} {s : Nat → Value} {w : World}
/-- the first k operations, each in a world of then: what it yields is as V says; lo and hi are the heap's sizes ahead of it and behind it -/
def stepsV (P : Program) (l : List Oper) (n : Nat) (s : Nat → Value) (w : World) (k0 : Nat) (V : Nat → Value → Nat → Nat → World → Prop) : Nat → Nat → List Oper → Prop
  | 0, _, _ => True
  | _ + 1, _, [] => True
  | t + 1, i, o :: os => (∀ (s' : Nat → Value) (w' : World), Below w.heap.size w w' → (∀ t, t < n → (∀ j, j < k0 → dstAt l j ≠ some t) → s' t = s t) → (∀ j, aB (Region.before l.toArray) i j = true → ∀ d, dstAt l j = some d → ∃ lo hi, w.heap.size ≤ lo ∧ hi ≤ w'.heap.size ∧ V j (s' d) lo hi w') →
      if Region.wanted o (yielded l.toArray (tmA n s')) then opF P o n s' w' (fun v w'' => V i v w'.heap.size w''.heap.size w'' ∧ Below w'.heap.size w' w'') else V i undef w'.heap.size w'.heap.size w') ∧ stepsV P l n s w k0 V t (i + 1) os
theorem stepsV_get {k0 : Nat} {V : Nat → Value → Nat → Nat → World → Prop} : ∀ (t i : Nat) (os : List Oper), stepsV P l n s w k0 V t i os → ∀ j o, j < t → os[j]? = some o → (∀ (s' : Nat → Value) (w' : World), Below w.heap.size w w' → (∀ t, t < n → (∀ j, j < k0 → dstAt l j ≠ some t) → s' t = s t) → (∀ q, aB (Region.before l.toArray) (i + j) q = true → ∀ d, dstAt l q = some d → ∃ lo hi, w.heap.size ≤ lo ∧ hi ≤ w'.heap.size ∧ V q (s' d) lo hi w') →
      if Region.wanted o (yielded l.toArray (tmA n s')) then opF P o n s' w' (fun v w'' => V (i + j) v w'.heap.size w''.heap.size w'' ∧ Below w'.heap.size w' w'') else V (i + j) undef w'.heap.size w'.heap.size w')
  | 0, _, _, _, j, _, hj, _ => absurd hj (Nat.not_lt_zero _)
  | t + 1, i, [], _, j, o, _, ho => by simp at ho
  | t + 1, i, o' :: os, h, 0, o, _, ho => by
    simp at ho; subst ho; exact h.1
  | t + 1, i, o' :: os, h, j + 1, o, hj, ho => by
    have := stepsV_get t (i + 1) os h.2 j o (by omega) (by simpa using ho)
    rw [show i + 1 + j = i + (j + 1) by omega] at this
    exact this
structure JV (l : List Oper) (n k : Nat) (s : Nat → Value) (w : World) (V : Nat → Value → Nat → Nat → World → Prop) (L : Nat → Bool) (s' : Nat → Value) (w' : World) : Prop where
  b : Below w.heap.size w w'
  cl : ∀ i j, L i = true → i < l.length → aB (Region.before l.toArray) i j = true → L j = true
  lo : ∀ i, L i = true → i < k
  un : ∀ t, t < n → (∀ j, j < k → dstAt l j ≠ some t) → s' t = s t
  vs : ∃ a b : Nat → Nat, (∀ i, L i = true → w.heap.size ≤ a i ∧ a i ≤ b i ∧ b i ≤ w'.heap.size ∧ ∀ d, dstAt l i = some d → V i (s' d) (a i) (b i) w') ∧ ∀ i j, L i = true → L j = true → i ≠ j → b i ≤ a j ∨ b j ≤ a i
theorem XG13b {A : Prop} (e : A := by exact hJ.cl e.on j hon (Nat.lt_of_lt_of_le (hJ.lo _ hon) hkl) hor) : A := e
theorem XG13c {A : Prop} (e : A := by exact hne j hj (hc.dst j i d (by rw [hrk]; exact hJ.lo j hj) (by rw [hrk]; exact him) hdj (by rw [h3, e]))) : A := e
theorem regionV_core {K : (Nat → Value) → World → Prop} (k : Nat) (V : Nat → Value → Nat → Nat → World → Prop) (hchk : chkR l (List.replicate k (.q [])) 0 = true)
    (hV : ∀ i v a b w w', V i v a b w → Below w.heap.size w w' → V i v a b w') (hcg : ∀ s s' w, (∀ t, t < n → s t = s' t) → K s w → K s' w)
    (hs : stepsV P l n s w k V k 0 l)
    (ht : ∀ s' w' (a b : Nat → Nat), Below w.heap.size w w' → (∀ t, t < n → (∀ j, j < k → dstAt l j ≠ some t) → s' t = s t) → (∀ i, i < k → w.heap.size ≤ a i ∧ a i ≤ b i ∧ b i ≤ w'.heap.size ∧ ∀ d, dstAt l i = some d → V i (s' d) (a i) (b i) w') → (∀ i j, i < k → j < k → i ≠ j → b i ≤ a j ∨ b j ≤ a i) → listF P l.toArray n K (l.drop k) s' w') :
    ∃ J : (Nat → Bool) → (Nat → Value) → World → Prop, J (fun _ => false) (fun d => if d < n then s d else undef) w.drew ∧ (∀ s w, J (fun j => decide (j < l.length)) s w → K s w) ∧ invF P l.toArray n J 0 l := by
  have hc := chk_of hchk
  have hkl : k ≤ l.length := by have := hc.le; simpa using this
  have fin : ∀ {L : Nat → Bool} {s' : Nat → Value} {w' : World}, JV l n k s w V L s' w' → (∀ j, j < k → L j = true) → J2 P l n k K L s' w' := by
    intro L s' w' h hL
    obtain ⟨a, b, h1, h2⟩ := h.vs
    refine ⟨k, Nat.le_refl _, hkl, fun j => ?_, s', fun _ _ => rfl, ht s' w' a b h.b h.un (fun i hi => h1 i (hL i hi)) (fun i j hi hj => h2 i j (hL i hi) (hL j hj))⟩
    by_cases hj : j < k
    · rw [hL j hj]; simp [hj]
    · cases hl : L j with
      | false => simp [hj]
      | true => exact absurd (h.lo j hl) hj
  let J : (Nat → Bool) → (Nat → Value) → World → Prop := fun L s' w' => JV l n k s w V L s' w' ∨ J2 P l n k K L s' w'
  have hstep2 : ∀ (i : Nat) (o : Oper) (L : Nat → Bool) (s' : Nat → Value) (w' : World), l[i]? = some o → L i = false → (∀ j, j < i → L j = true) → J2 P l n k K L s' w' → ∀ Kv : Value → World → Prop, (∀ v w1, J (upd L i) (updS s' o.dst v) w1 → Kv v w1) → if Region.wanted o (yielded l.toArray (tmA n s')) then opF P o n s' w' Kv else Kv undef w' := by
    intro i o L s' w' ho hL hlow ⟨k1, hk1, hk2, hk3, s2, hs2, hl2⟩ Kv hK
    have hik : i = k1 := by
      have h1 := hk3 i
      rw [hL] at h1
      have : ¬ i < k1 := by simpa using h1.symm
      rcases Nat.lt_or_ge k1 i with h2 | h2
      · have := hlow k1 h2
        rw [hk3 k1] at this; simp at this
      · omega
    subst hik
    have hil : i < l.length := (List.getElem?_eq_some_iff.1 ho).1
    rw [List.drop_eq_getElem_cons hil] at hl2
    have e : l[i] = o := by rw [List.getElem?_eq_getElem hil] at ho; exact Option.some.inj ho
    rw [e] at hl2
    refine listF_congr hs2 Kv (fun v w1 h => hK v w1 (.inr ⟨i + 1, by omega, by omega, fun j => ?_, updS s2 o.dst v, upd_agree hs2 _ _, h⟩)) hl2
    by_cases hj : j = i
    · subst hj; simp [upd]
    · rw [upd_ne hj, hk3 j]
      by_cases h : j < i
      · simp [h]; omega
      · simp [h]; omega
  refine ⟨J, .inl ⟨(Below.refl _ _).drew, fun _ _ h => (by cases h), fun _ h => (by cases h), fun t ht _ => if_pos ht, ⟨fun _ => 0, fun _ => 0, fun _ h => (by cases h), fun _ _ h => (by cases h)⟩⟩, ?_, invF_of l 0 ?_⟩
  · intro s' w' hJ
    have hend : J2 P l n k K (fun j => decide (j < l.length)) s' w' := by
      rcases hJ with hJ | hJ
      · exact fin hJ fun j hj => by simp; omega
      · exact hJ
    obtain ⟨k1, hk1, hk2, hk3, s2, hs2, hl2⟩ := hend
    have : k1 = l.length := by
      have h1 := hk3 k1
      simp only [Nat.lt_irrefl, decide_false, decide_eq_false_iff_not] at h1
      omega
    subst this
    rw [List.drop_length] at hl2
    exact hcg _ _ _ (fun t ht => (hs2 t ht).symm) hl2
  · intro i o ho L s' w' hL hd hJ Kv hK
    rw [Nat.zero_add] at hL
    simp only [Nat.zero_add] at hK
    have hil : i < l.length := (List.getElem?_eq_some_iff.1 ho).1
    have hrk : (List.replicate k (OK.q [])).length = k := List.length_replicate
    by_cases him : i < k
    · rcases hJ with hJ | hJ
      · obtain ⟨a, b, h1, h2⟩ := hJ.vs
        have hanc : ∀ j, aB (Region.before l.toArray) i j = true → L j = true := by
          intro j ha
          obtain ⟨e, he, hb', hor⟩ := hc.anc i j o ho ha
          rcases hor with rfl | hor
          · exact hd e he hb'
          · have hon := hd e he hb'
            exact XG13b
        have hg := stepsV_get k 0 l hs i o him ho s' w' hJ.b hJ.un (fun j hj d hd' => by rw [Nat.zero_add] at hj; obtain ⟨g1, g2, g3, g4⟩ := h1 j (hanc j hj); exact ⟨a j, b j, g1, g3, g4 d hd'⟩)
        rw [Nat.zero_add] at hg
        have done : ∀ v w'', V i v w'.heap.size w''.heap.size w'' → Below w'.heap.size w' w'' → JV l n k s w V (upd L i) (updS s' o.dst v) w'' := by
          intro v w'' hv hb
          have hne : ∀ j, L j = true → j ≠ i := fun j hj e => by rw [e, hL] at hj; cases hj
          have hoth : ∀ j d, L j = true → dstAt l j = some d → updS s' o.dst v d = s' d := by
            intro j d hj hdj
            cases hod : o.dst with
            | none => rfl
            | some di =>
              rw [updS_some, if_neg]
              intro e
              have h3 : dstAt l i = some di := by simp [dstAt, ho, hod]
              exact XG13c
          refine ⟨hJ.b.trans (hb.mono hJ.b.size), ?_, ?_, ?_, fun q => if q = i then w'.heap.size else a q, fun q => if q = i then w''.heap.size else b q, ?_, ?_⟩
          · intro q j hq hql ha
            by_cases e : q = i
            · subst e
              have h3 := hanc j ha
              rw [upd_ne (hne j h3)]; exact h3
            · rw [upd_ne e] at hq
              have h3 := hJ.cl q j hq hql ha
              rw [upd_ne (hne j h3)]; exact h3
          · intro q hq
            by_cases e : q = i
            · subst e; exact him
            · rw [upd_ne e] at hq; exact hJ.lo q hq
          · intro t ht hn
            rw [← hJ.un t ht hn]
            cases hod : o.dst with
            | none => rfl
            | some di => rw [updS_some, if_neg]; intro e; exact hn i him (by simp [dstAt, ho, hod, e])
          · intro q hq
            by_cases e : q = i
            · subst e
              simp only [if_pos]
              refine ⟨hJ.b.size, hb.size, Nat.le_refl _, fun d hdd => ?_⟩
              have h3 : o.dst = some d := by simpa [dstAt, ho] using hdd
              rw [h3, updS_some, if_pos rfl]; exact hv
            · rw [upd_ne e] at hq
              simp only [if_neg e]
              obtain ⟨g1, g2, g3, g4⟩ := h1 q hq
              refine ⟨g1, g2, Nat.le_trans g3 hb.size, fun d hdd => ?_⟩
              rw [hoth q d hq hdd]; exact hV _ _ _ _ _ _ (g4 d hdd) hb
          · intro q j hq hj hqj
            by_cases e : q = i
            · have e2 : ¬ j = i := fun h => hqj (e.trans h.symm)
              rw [upd_ne e2] at hj
              simp only [if_pos e, if_neg e2]
              exact .inr (h1 j hj).2.2.1
            · rw [upd_ne e] at hq
              by_cases e2 : j = i
              · simp only [if_neg e, if_pos e2]
                exact .inl (h1 q hq).2.2.1
              · rw [upd_ne e2] at hj
                simp only [if_neg e, if_neg e2]
                exact h2 q j hq hj hqj
        split
        · rename_i hw
          rw [if_pos hw] at hg
          exact uponF.mono (fun v w'' h => hK v w'' (.inl (done v w'' h.1 h.2))) hg
        · rename_i hw
          rw [if_neg hw] at hg
          exact hK _ _ (.inl (done _ _ hg (Below.refl _ _)))
      · obtain ⟨k1, hk1, _, hk3, _⟩ := hJ
        rw [hk3 i] at hL
        simp at hL; omega
    · rcases hJ with hJ | hJ
      · have hlow : ∀ j, j < i → L j = true := by
          intro j hj
          have ha := hc.tail i j hil (by rw [hrk]; omega) hj
          obtain ⟨e, he, hb', hor⟩ := hc.anc i j o ho ha
          rcases hor with rfl | hor
          · exact hd e he hb'
          · have hon := hd e he hb'
            exact XG13b
        exact hstep2 i o L s' w' ho hL hlow (fin hJ fun j hj => hlow j (by omega)) Kv hK
      · have hJ' := hJ
        obtain ⟨k1, hk1, hk2, hk3, _⟩ := hJ'
        have hlow : ∀ j, j < i → L j = true := by
          intro j hj
          have ha := hc.tail i j hil (by rw [hrk]; omega) hj
          obtain ⟨e, he, hb', hor⟩ := hc.anc i j o ho ha
          have hon := hd e he hb'
          rcases hor with rfl | hor
          · exact hon
          · rw [hk3] at hon ⊢
            simp only [decide_eq_true_eq] at hon ⊢
            have := hc.lt e.on j (by omega) hor
            omega
        exact hstep2 i o L s' w' ho hL hlow hJ Kv hK
theorem regionV_F {id : Nat} {ds : List Deferred} {Q : Exit → Act → World → Prop} (k : Nat) (V : Nat → Value → Nat → Nat → World → Prop) (hm : P.follows .mixedOrders = true) (hb : backB l.toArray = true) (hd : dstB l.toArray (List.range n) = true)
    (hchk : chkR l (List.replicate k (.q [])) 0 = true)
    (hV : ∀ i v a b w w', V i v a b w → Below w.heap.size w w' → V i v a b w')
    (hs : stepsV P l n s w k V k 0 l)
    (ht : ∀ s' w' (a b : Nat → Nat), Below w.heap.size w w' → (∀ t, t < n → (∀ j, j < k → dstAt l j ≠ some t) → s' t = s t) → (∀ i, i < k → w.heap.size ≤ a i ∧ a i ≤ b i ∧ b i ≤ w'.heap.size ∧ ∀ d, dstAt l i = some d → V i (s' d) (a i) (b i) w') → (∀ i j, i < k → j < k → i ≠ j → b i ≤ a j ∨ b j ≤ a i) → listF P l.toArray n (fun s w => Q .normal (mkA n s ds) w) (l.drop k) s' w') :
    (Code.region id l.toArray true).wp P Q (mkA n s ds) w := by
  obtain ⟨J, h0, he, hi⟩ := regionV_core (K := fun s w => Q .normal (mkA n s ds) w) k V hchk hV (fun s s' w h hk => by rw [← mkA_congr h]; exact hk) hs ht
  exact regionI_F J hm hb hd h0 he hi
/- the predicates as a list -/
abbrev PrV := Value → Nat → Nat → World → Prop
def monoV : List PrV → Prop
  | [] => True
  | p :: ps => (∀ v a b (w w' : World), p v a b w → Below w.heap.size w w' → p v a b w') ∧ monoV ps
def atV (ps : List PrV) (i : Nat) : PrV := ps.getD i fun _ _ _ _ => True
theorem monoV_at : ∀ {ps : List PrV}, monoV ps → ∀ i v a b (w w' : World), atV ps i v a b w → Below w.heap.size w w' → atV ps i v a b w'
  | [], _, _, _, _, _, _, _, _, _ => trivial
  | _ :: _, h, 0, v, a, b, w, w', h1, h2 => h.1 v a b w w' h1 h2
  | _ :: ps, h, i + 1, v, a, b, w, w', h1, h2 => monoV_at (ps := ps) h.2 i v a b w w' h1 h2
theorem un_of {k t : Nat} (h : (List.range k).all (fun j => dstAt l j != some t) = true) : ∀ j, j < k → dstAt l j ≠ some t := by
  rw [List.all_eq_true] at h
  intro j hj e
  have := h j (by simpa using hj)
  rw [e] at this
  simp at this
theorem regV {id : Nat} {ds : List Deferred} {Q : Exit → Act → World → Prop} (k : Nat) (ps : List PrV) (hm : P.follows .mixedOrders = true) (hb : backB l.toArray = true) (hd : dstB l.toArray (List.range n) = true)
    (hchk : chkR l (List.replicate k (.q [])) 0 = true) (hV : monoV ps) (hs : stepsV P l n s w k (atV ps) k 0 l)
    (ht : ∀ s' w' (a b : Nat → Nat), Below w.heap.size w w' → (∀ t, t < n → (∀ j, j < k → dstAt l j ≠ some t) → s' t = s t) → (∀ i, i < k → w.heap.size ≤ a i ∧ a i ≤ b i ∧ b i ≤ w'.heap.size ∧ ∀ d, dstAt l i = some d → atV ps i (s' d) (a i) (b i) w') → (∀ i j, i < k → j < k → i ≠ j → b i ≤ a j ∨ b j ≤ a i) → listF P l.toArray n (fun s w => Q .normal (mkA n s ds) w) (l.drop k) s' w') :
    (Code.region id l.toArray true).wp P Q (mkA n s ds) w := regionV_F k (atV ps) hm hb hd hchk (monoV_at hV) hs ht
theorem opV_val {o : Oper} {w0 : World} {s : Nat → Value} {v : Value} (h : ∀ K' : Value → World → Prop, K' v w0 → opF P o n s w0 K') : opF P o n s w0 (fun v' w'' => v' = v ∧ Below w0.heap.size w0 w'') := h _ ⟨rfl, Below.refl _ _⟩
theorem opV_alloc {o : Oper} {w0 : World} {s : Nat → Value} {zs : List Value} {T : TypeId} (h : ∀ K' : Value → World → Prop, K' (.pointer (some ⟨w0.heap.size, 0, none⟩)) (w0.alloc (.cells zs.toArray T)) → opF P o n s w0 K') :
    opF P o n s w0 (fun v w'' => (∃ B, v = .pointer (some ⟨B, 0, none⟩) ∧ w0.heap.size ≤ B ∧ B < w''.heap.size ∧ Cells w'' B zs) ∧ Below w0.heap.size w0 w'') := h _ ⟨⟨_, rfl, Nat.le_refl _, by simp, Cells.newL⟩, below_alloc1 _ _⟩
theorem opV_slice {o : Oper} {w0 : World} {s : Nat → Value} {zs : List Value} {T : TypeId} {k c : Nat} (h : ∀ K' : Value → World → Prop, K' (.slice (some ⟨w0.heap.size, 0, none⟩) k c) (w0.alloc (.cells zs.toArray T)) → opF P o n s w0 K') :
    opF P o n s w0 (fun v w'' => (∃ B, v = .slice (some ⟨B, 0, none⟩) k c ∧ w0.heap.size ≤ B ∧ B < w''.heap.size ∧ Cells w'' B zs) ∧ Below w0.heap.size w0 w'') := h _ ⟨⟨_, rfl, Nat.le_refl _, by simp, Cells.newL⟩, below_alloc1 _ _⟩
end

theorem mkA_mk (n : Nat) (s : Nat → Value) (ds : List Deferred) : ({ tmps := tmA n s, defers := ds } : Act) = mkA n s ds := rfl
/-- the deferred calls of a range -/
abbrev Dfr (w : World) (D : Nat) : Prop := w.heap[D]? = some (.deferred (some []))
theorem Dfr.at {w w' : World} {D : Nat} (h : Dfr w D) (hb : Below w.heap.size w w') : Dfr w' D := (hb.block _ (Array.getElem?_eq_some_iff.1 h).1).trans h
theorem Dfr.oldB {w w' : World} {D : Nat} {Bs : List Nat} (h : Dfr w D) (ho : OldB Bs w w') (hn : D ∉ Bs) : Dfr w' D := (ho.block _ (Array.getElem?_eq_some_iff.1 h).1 hn).trans h
theorem res_ccc {P : Program} {fn : Func} {p p2 p3 : Tmp} {ty ty2 ty3 : TypeId} (h : fn.results = #[.cell p ty, .cell p2 ty2, .cell p3 ty3]) {tmps : Array Value} {w : World} {ad ad2 ad3 : Addr} {v v2 v3 : Value} (e : tmps.getD p undef = .pointer (some ad)) (e2 : tmps.getD p2 undef = .pointer (some ad2)) (e3 : tmps.getD p3 undef = .pointer (some ad3))
    (l : (loadVar ty ad).run P w = .ok v w) (l2 : (loadVar ty2 ad2).run P w = .ok v2 w) (l3 : (loadVar ty3 ad3).run P w = .ok v3 w) : (results fn tmps).run P w = .ok (.tuple #[v, v2, v3]) w := by
  simp only [Array.getD_eq_getD_getElem?] at *
  simp only [results, h]
  simp [Sem.run_bind, Result.andThen, e, asAddr, l, e2, l2, e3, l3]
end

section
open Go.RowKit

section
variable {P : Program} {l : List Oper} {n : Nat} {s : Nat → Value} {w : World}
/-- the first k operations, each in a world of then: what it yields is as V says; lo and hi are the heap's sizes ahead of it and behind it -/
def stepsD (P : Program) (l : List Oper) (n : Nat) (s : Nat → Value) (w : World) (k0 : Nat) (V : Nat → Value → Nat → Nat → World → Prop) : Nat → Nat → List Oper → Prop
  | 0, _, _ => True
  | _ + 1, _, [] => True
  | t + 1, i, o :: os => (∀ (s' : Nat → Value) (w' : World), Below w.heap.size w w' → (∀ t, t < n → (∀ j, j < k0 → dstAt l j ≠ some t) → s' t = s t) → (∀ j, aB (Region.before l.toArray) i j = true → ∀ d, dstAt l j = some d → ∃ lo hi, w.heap.size ≤ lo ∧ hi ≤ w'.heap.size ∧ V j (s' d) lo hi w') →
      if Region.wanted o (yielded l.toArray (tmA n s')) then opF P o n s' w' (fun v w'' => V i v w'.heap.size w''.heap.size w'' ∧ Below w'.heap.size w' w'' ∧ w'.drawn ≤ w''.drawn) else V i undef w'.heap.size w'.heap.size w') ∧ stepsD P l n s w k0 V t (i + 1) os
theorem stepsD_get {k0 : Nat} {V : Nat → Value → Nat → Nat → World → Prop} : ∀ (t i : Nat) (os : List Oper), stepsD P l n s w k0 V t i os → ∀ j o, j < t → os[j]? = some o → (∀ (s' : Nat → Value) (w' : World), Below w.heap.size w w' → (∀ t, t < n → (∀ j, j < k0 → dstAt l j ≠ some t) → s' t = s t) → (∀ q, aB (Region.before l.toArray) (i + j) q = true → ∀ d, dstAt l q = some d → ∃ lo hi, w.heap.size ≤ lo ∧ hi ≤ w'.heap.size ∧ V q (s' d) lo hi w') →
      if Region.wanted o (yielded l.toArray (tmA n s')) then opF P o n s' w' (fun v w'' => V (i + j) v w'.heap.size w''.heap.size w'' ∧ Below w'.heap.size w' w'' ∧ w'.drawn ≤ w''.drawn) else V (i + j) undef w'.heap.size w'.heap.size w')
  | 0, _, _, _, j, _, hj, _ => absurd hj (Nat.not_lt_zero _)
  | t + 1, i, [], _, j, o, _, ho => by simp at ho
  | t + 1, i, o' :: os, h, 0, o, _, ho => by
    simp at ho; subst ho; exact h.1
  | t + 1, i, o' :: os, h, j + 1, o, hj, ho => by
    have := stepsD_get t (i + 1) os h.2 j o (by omega) (by simpa using ho)
    rw [show i + 1 + j = i + (j + 1) by omega] at this
    exact this
structure JD (l : List Oper) (n k : Nat) (s : Nat → Value) (w : World) (V : Nat → Value → Nat → Nat → World → Prop) (L : Nat → Bool) (s' : Nat → Value) (w' : World) : Prop where
  b : Below w.heap.size w w'
  d : w.drawn ≤ w'.drawn
  cl : ∀ i j, L i = true → i < l.length → aB (Region.before l.toArray) i j = true → L j = true
  lo : ∀ i, L i = true → i < k
  un : ∀ t, t < n → (∀ j, j < k → dstAt l j ≠ some t) → s' t = s t
  vs : ∃ a b : Nat → Nat, (∀ i, L i = true → w.heap.size ≤ a i ∧ a i ≤ b i ∧ b i ≤ w'.heap.size ∧ ∀ d, dstAt l i = some d → V i (s' d) (a i) (b i) w') ∧ ∀ i j, L i = true → L j = true → i ≠ j → b i ≤ a j ∨ b j ≤ a i
theorem regionD_core {K : (Nat → Value) → World → Prop} (k : Nat) (V : Nat → Value → Nat → Nat → World → Prop) (hchk : chkR l (List.replicate k (.q [])) 0 = true)
    (hV : ∀ i v a b w w', V i v a b w → Below w.heap.size w w' → V i v a b w') (hcg : ∀ s s' w, (∀ t, t < n → s t = s' t) → K s w → K s' w)
    (hs : stepsD P l n s w k V k 0 l)
    (ht : ∀ s' w' (a b : Nat → Nat), Below w.heap.size w w' → w.drawn ≤ w'.drawn → (∀ t, t < n → (∀ j, j < k → dstAt l j ≠ some t) → s' t = s t) → (∀ i, i < k → w.heap.size ≤ a i ∧ a i ≤ b i ∧ b i ≤ w'.heap.size ∧ ∀ d, dstAt l i = some d → V i (s' d) (a i) (b i) w') → (∀ i j, i < k → j < k → i ≠ j → b i ≤ a j ∨ b j ≤ a i) → listF P l.toArray n K (l.drop k) s' w') :
    ∃ J : (Nat → Bool) → (Nat → Value) → World → Prop, J (fun _ => false) (fun d => if d < n then s d else undef) w.drew ∧ (∀ s w, J (fun j => decide (j < l.length)) s w → K s w) ∧ invF P l.toArray n J 0 l := by
  have hc := chk_of hchk
  have hkl : k ≤ l.length := by have := hc.le; simpa using this
  have fin : ∀ {L : Nat → Bool} {s' : Nat → Value} {w' : World}, JD l n k s w V L s' w' → (∀ j, j < k → L j = true) → J2 P l n k K L s' w' := by
    intro L s' w' h hL
    obtain ⟨a, b, h1, h2⟩ := h.vs
    refine ⟨k, Nat.le_refl _, hkl, fun j => ?_, s', fun _ _ => rfl, ht s' w' a b h.b h.d h.un (fun i hi => h1 i (hL i hi)) (fun i j hi hj => h2 i j (hL i hi) (hL j hj))⟩
    by_cases hj : j < k
    · rw [hL j hj]; simp [hj]
    · cases hl : L j with
      | false => simp [hj]
      | true => exact absurd (h.lo j hl) hj
  let J : (Nat → Bool) → (Nat → Value) → World → Prop := fun L s' w' => JD l n k s w V L s' w' ∨ J2 P l n k K L s' w'
  have hstep2 : ∀ (i : Nat) (o : Oper) (L : Nat → Bool) (s' : Nat → Value) (w' : World), l[i]? = some o → L i = false → (∀ j, j < i → L j = true) → J2 P l n k K L s' w' → ∀ Kv : Value → World → Prop, (∀ v w1, J (upd L i) (updS s' o.dst v) w1 → Kv v w1) → if Region.wanted o (yielded l.toArray (tmA n s')) then opF P o n s' w' Kv else Kv undef w' := by
    intro i o L s' w' ho hL hlow ⟨k1, hk1, hk2, hk3, s2, hs2, hl2⟩ Kv hK
    have hik : i = k1 := by
      have h1 := hk3 i
      rw [hL] at h1
      have : ¬ i < k1 := by simpa using h1.symm
      rcases Nat.lt_or_ge k1 i with h2 | h2
      · have := hlow k1 h2
        rw [hk3 k1] at this; simp at this
      · omega
    subst hik
    have hil : i < l.length := (List.getElem?_eq_some_iff.1 ho).1
    rw [List.drop_eq_getElem_cons hil] at hl2
    have e : l[i] = o := by rw [List.getElem?_eq_getElem hil] at ho; exact Option.some.inj ho
    rw [e] at hl2
    refine listF_congr hs2 Kv (fun v w1 h => hK v w1 (.inr ⟨i + 1, by omega, by omega, fun j => ?_, updS s2 o.dst v, upd_agree hs2 _ _, h⟩)) hl2
    by_cases hj : j = i
    · subst hj; simp [upd]
    · rw [upd_ne hj, hk3 j]
      by_cases h : j < i
      · simp [h]; omega
      · simp [h]; omega
  refine ⟨J, .inl ⟨(Below.refl _ _).drew, Nat.le_succ _, fun _ _ h => (by cases h), fun _ h => (by cases h), fun t ht _ => if_pos ht, ⟨fun _ => 0, fun _ => 0, fun _ h => (by cases h), fun _ _ h => (by cases h)⟩⟩, ?_, invF_of l 0 ?_⟩
  · intro s' w' hJ
    have hend : J2 P l n k K (fun j => decide (j < l.length)) s' w' := by
      rcases hJ with hJ | hJ
      · exact fin hJ fun j hj => by simp; omega
      · exact hJ
    obtain ⟨k1, hk1, hk2, hk3, s2, hs2, hl2⟩ := hend
    have : k1 = l.length := by
      have h1 := hk3 k1
      simp only [Nat.lt_irrefl, decide_false, decide_eq_false_iff_not] at h1
      omega
    subst this
    rw [List.drop_length] at hl2
    exact hcg _ _ _ (fun t ht => (hs2 t ht).symm) hl2
  · intro i o ho L s' w' hL hd hJ Kv hK
    rw [Nat.zero_add] at hL
    simp only [Nat.zero_add] at hK
    have hil : i < l.length := (List.getElem?_eq_some_iff.1 ho).1
    have hrk : (List.replicate k (OK.q [])).length = k := List.length_replicate
    by_cases him : i < k
    · rcases hJ with hJ | hJ
      · obtain ⟨a, b, h1, h2⟩ := hJ.vs
        have hanc : ∀ j, aB (Region.before l.toArray) i j = true → L j = true := by
          intro j ha
          obtain ⟨e, he, hb', hor⟩ := hc.anc i j o ho ha
          rcases hor with rfl | hor
          · exact hd e he hb'
          · have hon := hd e he hb'
            exact XG13b
        have hg := stepsD_get k 0 l hs i o him ho s' w' hJ.b hJ.un (fun j hj d hd' => by rw [Nat.zero_add] at hj; obtain ⟨g1, g2, g3, g4⟩ := h1 j (hanc j hj); exact ⟨a j, b j, g1, g3, g4 d hd'⟩)
        rw [Nat.zero_add] at hg
        have done : ∀ v w'', V i v w'.heap.size w''.heap.size w'' → Below w'.heap.size w' w'' → w'.drawn ≤ w''.drawn → JD l n k s w V (upd L i) (updS s' o.dst v) w'' := by
          intro v w'' hv hb hdr
          have hne : ∀ j, L j = true → j ≠ i := fun j hj e => by rw [e, hL] at hj; cases hj
          have hoth : ∀ j d, L j = true → dstAt l j = some d → updS s' o.dst v d = s' d := by
            intro j d hj hdj
            cases hod : o.dst with
            | none => rfl
            | some di =>
              rw [updS_some, if_neg]
              intro e
              have h3 : dstAt l i = some di := by simp [dstAt, ho, hod]
              exact XG13c
          refine ⟨hJ.b.trans (hb.mono hJ.b.size), Nat.le_trans hJ.d hdr, ?_, ?_, ?_, fun q => if q = i then w'.heap.size else a q, fun q => if q = i then w''.heap.size else b q, ?_, ?_⟩
          · intro q j hq hql ha
            by_cases e : q = i
            · subst e
              have h3 := hanc j ha
              rw [upd_ne (hne j h3)]; exact h3
            · rw [upd_ne e] at hq
              have h3 := hJ.cl q j hq hql ha
              rw [upd_ne (hne j h3)]; exact h3
          · intro q hq
            by_cases e : q = i
            · subst e; exact him
            · rw [upd_ne e] at hq; exact hJ.lo q hq
          · intro t ht hn
            rw [← hJ.un t ht hn]
            cases hod : o.dst with
            | none => rfl
            | some di => rw [updS_some, if_neg]; intro e; exact hn i him (by simp [dstAt, ho, hod, e])
          · intro q hq
            by_cases e : q = i
            · subst e
              simp only [if_pos]
              refine ⟨hJ.b.size, hb.size, Nat.le_refl _, fun d hdd => ?_⟩
              have h3 : o.dst = some d := by simpa [dstAt, ho] using hdd
              rw [h3, updS_some, if_pos rfl]; exact hv
            · rw [upd_ne e] at hq
              simp only [if_neg e]
              obtain ⟨g1, g2, g3, g4⟩ := h1 q hq
              refine ⟨g1, g2, Nat.le_trans g3 hb.size, fun d hdd => ?_⟩
              rw [hoth q d hq hdd]; exact hV _ _ _ _ _ _ (g4 d hdd) hb
          · intro q j hq hj hqj
            by_cases e : q = i
            · have e2 : ¬ j = i := fun h => hqj (e.trans h.symm)
              rw [upd_ne e2] at hj
              simp only [if_pos e, if_neg e2]
              exact .inr (h1 j hj).2.2.1
            · rw [upd_ne e] at hq
              by_cases e2 : j = i
              · simp only [if_neg e, if_pos e2]
                exact .inl (h1 q hq).2.2.1
              · rw [upd_ne e2] at hj
                simp only [if_neg e, if_neg e2]
                exact h2 q j hq hj hqj
        split
        · rename_i hw
          rw [if_pos hw] at hg
          exact uponF.mono (fun v w'' h => hK v w'' (.inl (done v w'' h.1 h.2.1 h.2.2))) hg
        · rename_i hw
          rw [if_neg hw] at hg
          exact hK _ _ (.inl (done _ _ hg (Below.refl _ _) (Nat.le_refl _)))
      · obtain ⟨k1, hk1, _, hk3, _⟩ := hJ
        rw [hk3 i] at hL
        simp at hL; omega
    · rcases hJ with hJ | hJ
      · have hlow : ∀ j, j < i → L j = true := by
          intro j hj
          have ha := hc.tail i j hil (by rw [hrk]; omega) hj
          obtain ⟨e, he, hb', hor⟩ := hc.anc i j o ho ha
          rcases hor with rfl | hor
          · exact hd e he hb'
          · have hon := hd e he hb'
            exact XG13b
        exact hstep2 i o L s' w' ho hL hlow (fin hJ fun j hj => hlow j (by omega)) Kv hK
      · have hJ' := hJ
        obtain ⟨k1, hk1, hk2, hk3, _⟩ := hJ'
        have hlow : ∀ j, j < i → L j = true := by
          intro j hj
          have ha := hc.tail i j hil (by rw [hrk]; omega) hj
          obtain ⟨e, he, hb', hor⟩ := hc.anc i j o ho ha
          have hon := hd e he hb'
          rcases hor with rfl | hor
          · exact hon
          · rw [hk3] at hon ⊢
            simp only [decide_eq_true_eq] at hon ⊢
            have := hc.lt e.on j (by omega) hor
            omega
        exact hstep2 i o L s' w' ho hL hlow hJ Kv hK
theorem regionD_F {id : Nat} {ds : List Deferred} {Q : Exit → Act → World → Prop} (k : Nat) (V : Nat → Value → Nat → Nat → World → Prop) (hm : P.follows .mixedOrders = true) (hb : backB l.toArray = true) (hd : dstB l.toArray (List.range n) = true)
    (hchk : chkR l (List.replicate k (.q [])) 0 = true)
    (hV : ∀ i v a b w w', V i v a b w → Below w.heap.size w w' → V i v a b w')
    (hs : stepsD P l n s w k V k 0 l)
    (ht : ∀ s' w' (a b : Nat → Nat), Below w.heap.size w w' → w.drawn ≤ w'.drawn → (∀ t, t < n → (∀ j, j < k → dstAt l j ≠ some t) → s' t = s t) → (∀ i, i < k → w.heap.size ≤ a i ∧ a i ≤ b i ∧ b i ≤ w'.heap.size ∧ ∀ d, dstAt l i = some d → V i (s' d) (a i) (b i) w') → (∀ i j, i < k → j < k → i ≠ j → b i ≤ a j ∨ b j ≤ a i) → listF P l.toArray n (fun s w => Q .normal (mkA n s ds) w) (l.drop k) s' w') :
    (Code.region id l.toArray true).wp P Q (mkA n s ds) w := by
  obtain ⟨J, h0, he, hi⟩ := regionD_core (K := fun s w => Q .normal (mkA n s ds) w) k V hchk hV (fun s s' w h hk => by rw [← mkA_congr h]; exact hk) hs ht
  exact regionI_F J hm hb hd h0 he hi
theorem regD {id : Nat} {ds : List Deferred} {Q : Exit → Act → World → Prop} (k : Nat) (ps : List PrV) (hm : P.follows .mixedOrders = true) (hb : backB l.toArray = true) (hd : dstB l.toArray (List.range n) = true)
    (hchk : chkR l (List.replicate k (.q [])) 0 = true) (hV : monoV ps) (hs : stepsD P l n s w k (atV ps) k 0 l)
    (ht : ∀ s' w' (a b : Nat → Nat), Below w.heap.size w w' → w.drawn ≤ w'.drawn → (∀ t, t < n → (∀ j, j < k → dstAt l j ≠ some t) → s' t = s t) → (∀ i, i < k → w.heap.size ≤ a i ∧ a i ≤ b i ∧ b i ≤ w'.heap.size ∧ ∀ d, dstAt l i = some d → atV ps i (s' d) (a i) (b i) w') → (∀ i j, i < k → j < k → i ≠ j → b i ≤ a j ∨ b j ≤ a i) → listF P l.toArray n (fun s w => Q .normal (mkA n s ds) w) (l.drop k) s' w') :
    (Code.region id l.toArray true).wp P Q (mkA n s ds) w := regionD_F k (atV ps) hm hb hd hchk (monoV_at hV) hs ht

theorem opD_val {o : Oper} {w0 : World} {s : Nat → Value} {v : Value} (h : ∀ K' : Value → World → Prop, K' v w0 → opF P o n s w0 K') : opF P o n s w0 (fun v' w'' => v' = v ∧ Below w0.heap.size w0 w'' ∧ w0.drawn ≤ w''.drawn) := h _ ⟨rfl, Below.refl _ _, Nat.le_refl _⟩
end
/-- a world that left old memory alone is one that has grown, behind draws -/
theorem ex_grow {W w' : World} (h : Below W.heap.size W w') (hd : W.drawn ≤ w'.drawn) : ∃ q os', w' = Go.Sort.grow (W.drewN q) os' := by
  refine ⟨w'.drawn - W.drawn, w'.heap.extract W.heap.size w'.heap.size, ?_⟩
  obtain ⟨hp, tp, dr, os, out⟩ := w'
  obtain ⟨hp0, tp0, dr0, os0, out0⟩ := W
  have h1 := h.os; have h2 := h.tape; have h3 := h.output; have h4 := h.size; have h5 := h.block
  simp only at h1 h2 h3 h4 h5 hd
  subst h1; subst h2; subst h3
  have e1 : dr = dr0 + (dr - dr0) := by omega
  have e2 : hp = hp0 ++ hp.extract hp0.size hp.size := by
    apply Array.ext_getElem?
    intro k
    rw [Array.getElem?_append]
    split
    · rename_i hk; exact h5 k hk
    · rename_i hk
      rw [Array.getElem?_extract]
      split
      · congr 1; omega
      · rename_i hk2
        rw [Array.getElem?_eq_none (by omega)]
  show World.mk hp tp dr os out = World.mk (hp0 ++ hp.extract hp0.size hp.size) tp (dr0 + (dr - dr0)) os out
  rw [← e1, ← e2]
end

section
open Go.RowKit

section
variable {P : Program} {κ : Type} [DecidableEq κ] {kt T E : TypeId} {kv : κ → Value} {w : World} {b n : Nat} {g : κ → Option Value}
theorem oldB_setBlock {o : Obj} : OldB [b] w (Go.ChangeMaps.setBlock w b o) :=
  ⟨rfl, rfl, rfl, by simp [Go.ChangeMaps.setBlock], fun k hk hn => by simp [Go.ChangeMaps.setBlock, Array.getElem?_setIfInBounds, show ¬ b = k from fun e => hn (by simp [e])]⟩
theorem MapV.entry (h : MapV P kt kv w b n g) (L : Go.WideMaps.KeyLaw P kt) (ht : P.underlying T = some (.map kt E)) (hn : n < 9223372036854775807) (hinj : ∀ x y : κ, kv x = kv y → x = y) {z : Value} (hz : ∀ u, (zeroValue E).run P u = .ok z u) {x : κ} {kl : Lit} (hk : keyOf P kt (kv x) = some kl) :
    ∃ (st : Nat) (w1 : World), (Instr.mapEntry T (.map (some b)) (kv x)).run P w = .ok (.tuple #[(g x).getD z, goInt st]) w1 ∧ OldB [b] w w1 ∧ ∀ w2 v, w2.heap[b]? = w1.heap[b]? → ∃ w3, (Instr.entryStore T (.map (some b)) (goInt st) v).run P w2 = .ok () w3 ∧ OldB [b] w2 w3 ∧ MapV P kt kv w3 b (n + 1) (fun y => if y = x then some v else g y) := by
  have K := Maps.Keyed.of_law L
  have hlook := h.has K ht (hz w) hk false
  have hput := fun v => h.put K ht hn hinj hk v
  have hlt := h.lt
  obtain ⟨D, ⟨es, clock, hb, hF, hsz, hD⟩, _, _⟩ := h
  obtain ⟨v0, st, es1, clock1, hr, _, hst⟩ := Go.WideElems.entry_then_store L ht hz hb hF hk
  have hv0 : v0 = (g x).getD z := by
    simp only [Bool.false_eq_true, if_false] at hlook
    rcases K.find w hk es.toList hF.keys with ⟨h1, h2⟩ | ⟨j, e0, h1, h2, h3⟩
    · have r1 : (Instr.lookup T (.map (some b)) (kv x) false).run P w = .ok z w := by simp [Instr.lookup, run_underlying ht, Go.MapKept.run_getObj_map hb, K.check w es.isEmpty hk, h1, hz, Result.andThen]
      have r2 := hr
      simp [Instr.mapEntry, run_underlying ht, Go.MapKept.run_getObj_map hb, K.check w false hk, h1, hz, Go.MapKept.run_setObj_map _ hb, Result.andThen] at r2
      rw [hlook] at r1
      have e1 : (g x).getD z = z := by injection r1
      rw [e1]; exact r2.1.1.symm
    · have hj : es[j]? = some e0 := by simpa using h2
      have r1 : (Instr.lookup T (.map (some b)) (kv x) false).run P w = .ok e0.val w := by simp [Instr.lookup, run_underlying ht, Go.MapKept.run_getObj_map hb, K.check w es.isEmpty hk, h1, Result.andThen]
      have r2 := hr
      simp [Instr.mapEntry, run_underlying ht, Go.MapKept.run_getObj_map hb, K.check w false hk, h1, hj, h3, K.stays w hk, Go.MapKept.run_setObj_map _ hb, Result.andThen] at r2
      rw [hlook] at r1
      have e1 : (g x).getD z = e0.val := by injection r1
      rw [e1]; exact r2.1.1.symm
  subst hv0
  refine ⟨st, _, hr, oldB_setBlock, fun w2 v hw2 => ?_⟩
  have hw2' : w2.heap[b]? = some (.map es1 clock1) := by rw [hw2]; simp [Go.ChangeMaps.setBlock, hlt]
  obtain ⟨es', clock', hs, hu⟩ := hst w2 v hw2'
  obtain ⟨w', hu', hm, _⟩ := hput v
  rw [hu] at hu'
  have ew : Go.ChangeMaps.setBlock w b (.map es' clock') = w' := by injection hu'
  subst ew
  have hlt2 : b < w2.heap.size := (Array.getElem?_eq_some_iff.1 hw2').1
  exact ⟨_, hs, oldB_setBlock, hm.same (by simp [Go.ChangeMaps.setBlock, hlt, hlt2])⟩
/-- what may be stored behind an entry -/
def EntryAt (P : Program) (kt T : TypeId) (kv : κ → Value) (b n : Nat) (g : κ → Option Value) (x : κ) (st : Nat) (w : World) : Prop :=
  ∀ w2 v, w2.heap[b]? = w.heap[b]? → ∃ w3, (Instr.entryStore T (.map (some b)) (goInt st) v).run P w2 = .ok () w3 ∧ OldB [b] w2 w3 ∧ MapV P kt kv w3 b (n + 1) (fun y => if y = x then some v else g y)
theorem EntryAt.same {x : κ} {st : Nat} {w' : World} (h : EntryAt P kt T kv b n g x st w) (hb : w'.heap[b]? = w.heap[b]?) : EntryAt P kt T kv b n g x st w' := fun w2 v hw => h w2 v (hw.trans hb)
theorem opF_entry {o : Oper} {m9 d : Nat} {s : Nat → Value} {K' : Value → World → Prop} (hd : o.dst = some d) (hd9 : d < m9) (m y : Operand) (ho : o.op = .mapEntry T m y) (L : Go.WideMaps.KeyLaw P kt) (ht : P.underlying T = some (.map kt E)) (h : MapV P kt kv w b n g) (hn : n < 9223372036854775807) (hinj : ∀ x y : κ, kv x = kv y → x = y) {z : Value} (hz : ∀ u, (zeroValue E).run P u = .ok z u)
    (x : κ) (hm : evF m9 s m = .map (some b)) (hy : evF m9 s y = kv x) {kl : Lit} (hk : keyOf P kt (kv x) = some kl)
    (hK : ∀ (st : Nat) w1, b < w1.heap.size → OldB [b] w w1 → EntryAt P kt T kv b n g x st w1 → K' (.tuple #[(g x).getD z, goInt st]) w1) : opF P o m9 s w K' := by
  obtain ⟨st, w1, hr, ho1, hs⟩ := h.entry L ht hn hinj hz hk
  refine opF_of_wp hd hd9 (fun K1 Q hK1 => ?_)
  unfold Oper.wp execOp
  simp only [ho, Sem.run_bind, Sem.run_pure, Result.andThen_ok, mkA_eval, hm, hy, hr]
  exact hK1 _ _ (hK st w1 (Nat.lt_of_lt_of_le h.lt ho1.size) ho1 hs)
theorem opF_entryStore {o : Oper} {m9 : Nat} {s : Nat → Value} {K' : Value → World → Prop} (m a v : Operand) (ho : o.op = .entryStore T m a v) {x : κ} {st : Nat} (h : EntryAt P kt T kv b n g x st w) (hm : evF m9 s m = .map (some b)) (ha : evF m9 s a = goInt st)
    (hK : ∀ w', MapV P kt kv w' b (n + 1) (fun y => if y = x then some (evF m9 s v) else g y) → OldB [b] w w' → K' undef w') : opF P o m9 s w K' := by
  obtain ⟨w3, hr, ho3, hm3⟩ := h w (evF m9 s v) rfl
  unfold opF execOp
  simp only [ho, hm, ha, Sem.run_bind, Sem.run_pure, hr, Result.andThen_ok]
  exact hK w3 hm3 ho3
end
end


end Go.Proofs.YtleknidlgmmgbaaGreat
