/- The program's order: the small functions. -/
import Derived.Test.YtleknidlgmmgbaaGreattaG7
import Derived.Maps.OwnSet
set_option linter.all false
namespace Go.Proofs.YtleknidlgmmgbaaGreat

section
open Go.RowKit

abbrev rawR : Value → Option (DataW Value × List MemPlace) := fun v => some (.held v, [])
section
variable {P : Program} {κ : Type} [DecidableEq κ]
/-- block b is a map of at most n entries; at the key of x lies g x -/
def MapV (P : Program) (kt : TypeId) (kv : κ → Value) (w : World) (b n : Nat) (g : κ → Option Value) : Prop :=
  ∃ D : DataW Value, w.ownsMap P kt rawR b n D ∧ Maps.IsMap D ∧ ∀ x kl, keyOf P kt (kv x) = some kl → ∀ zd, D.atKey kl zd = (match g x with | some v => .held v | none => zd)
variable {kt T E : TypeId} {kv : κ → Value} {w w' : World} {b n : Nat} {g : κ → Option Value}
theorem MapV.made (w : World) : MapV P kt kv (w.alloc (.map #[] 0)) w.heap.size 0 (fun _ => none) :=
  ⟨_, World.ownsMap_made _ _ _ _, ⟨_, rfl⟩, fun _ _ _ _ => rfl⟩
theorem MapV.lt (h : MapV P kt kv w b n g) : b < w.heap.size := by obtain ⟨D, h1, _⟩ := h; exact h1.lt
theorem MapV.same (h : MapV P kt kv w b n g) (hb : w'.heap[b]? = w.heap[b]?) : MapV P kt kv w' b n g := by
  obtain ⟨D, ⟨es, clock, h1, h2⟩, h3⟩ := h
  exact ⟨D, ⟨es, clock, hb.trans h1, h2⟩, h3⟩
theorem MapV.at (h : MapV P kt kv w b n g) (hb : Below w.heap.size w w') : MapV P kt kv w' b n g := h.same (hb.block b h.lt)
theorem MapV.oldB {Bs : List Nat} (h : MapV P kt kv w b n g) (ho : OldB Bs w w') (hb : b ∉ Bs) : MapV P kt kv w' b n g := h.same (ho.block b h.lt hb)
theorem MapV.grown (h : MapV P kt kv w b n g) {v : Value} (hg : w.grownBy w' v.ownBlock) (hv : v.ownBlock ≠ some b) : MapV P kt kv w' b n g := h.same (hg.block b h.lt (fun e => hv e.symm))
theorem MapV.mono (h : MapV P kt kv w b n g) {m : Nat} (hm : n ≤ m) : MapV P kt kv w b m g := by
  obtain ⟨D, h1, h3⟩ := h
  exact ⟨D, h1.mono hm, h3⟩
theorem MapV.has (h : MapV P kt kv w b n g) (K : Maps.Keyed P kt) (ht : P.underlying T = some (.map kt E)) {z : Value} (hz : (zeroValue E).run P w = .ok z w) {x : κ} {kl : Lit} (hk : keyOf P kt (kv x) = some kl) (c : Bool) :
    (Instr.lookup T (.map (some b)) (kv x) c).run P w = .ok (if c then .tuple #[(g x).getD z, .bool (g x).isSome] else (g x).getD z) w := by
  obtain ⟨D, h1, _, h3⟩ := h
  have h4 := h3 x kl hk
  have e1 : ∀ {v : Value} {ps : List MemPlace}, rawR v = some (D.atKey kl (.held z), ps) → v = (g x).getD z := by
    intro v ps hv
    have hv' := congrArg (fun o => o.map Prod.fst) hv
    simp only [rawR, Option.map_some, h4, Option.some.injEq] at hv'
    cases hg : g x with
    | none => rw [hg] at hv'; simpa using hv'
    | some y => rw [hg] at hv'; simpa using hv'
  cases c with
  | false =>
    obtain ⟨v, ps, hr, hv⟩ := h1.lookup K ht hz (zd := .held z) (zp := []) rfl hk
    rw [hr, e1 hv]; rfl
  | true =>
    obtain ⟨v, ps, hr, hv⟩ := h1.look_ok K ht hz (zd := .held z) (zp := []) rfl hk
    have e2 : Maps.has D kl = (g x).isSome := by
      cases hg : g x with
      | none => rw [hg] at h4; exact Maps.has_false_of_atKey h4
      | some y => rw [hg] at h4; exact Maps.has_true_of_atKey h4
    rw [hr, e1 hv, e2]; rfl
theorem MapV.put (h : MapV P kt kv w b n g) (K : Maps.Keyed P kt) (ht : P.underlying T = some (.map kt E)) (hn : n < 9223372036854775807) (hinj : ∀ x y : κ, kv x = kv y → x = y) {x : κ} {kl : Lit} (hk : keyOf P kt (kv x) = some kl) (v : Value) :
    ∃ w', (Instr.mapUpdate T (.map (some b)) (kv x) v).run P w = .ok () w' ∧ MapV P kt kv w' b (n + 1) (fun y => if y = x then some v else g y) ∧ OldB [b] w w' := by
  obtain ⟨D, h1, h2, h3⟩ := h
  obtain ⟨w', hr, ho, hg⟩ := h1.update K ht (show n < maxLen by unfold maxLen; omega) hk (d := .held v) (ps := []) (val := v) rfl
  refine ⟨w', hr, ⟨_, ho, h2.put _ _, ?_⟩, ⟨hg.os, hg.tape, hg.output, hg.size, fun k hk hn => hg.block k hk (fun e => hn (by simpa using e))⟩⟩
  intro y kl' hk' zd
  simp only
  by_cases e : y = x
  · subst e
    rw [hk] at hk'; cases hk'
    simp only [if_pos]; rw [Maps.atKey_put_same h2 (K.key hk)]
  · simp only [if_neg e]; rw [Maps.atKey_put_other (fun e2 => e (hinj _ _ (K.inj (by rw [hk', e2]) hk)))]
    exact h3 y kl' hk' zd
end

section
variable {P : Program} {o : Oper} {n d : Nat} {s : Nat → Value} {w : World} {K' : Value → World → Prop} {κ : Type} [DecidableEq κ] {kt T E : TypeId} {kv : κ → Value} {b k : Nat} {g : κ → Option Value}
theorem opF_look (hd : o.dst = some d) (hn : d < n) (m y : Operand) (c : Bool) (ho : o.op = .lookup T m y c) (K : Maps.Keyed P kt) (ht : P.underlying T = some (.map kt E)) {z : Value} (hz : (zeroValue E).run P w = .ok z w) (h : MapV P kt kv w b k g)
    (x : κ) (hm : evF n s m = .map (some b)) (hy : evF n s y = kv x) {kl : Lit} (hk : keyOf P kt (kv x) = some kl) (hK : K' (if c then .tuple #[(g x).getD z, .bool (g x).isSome] else (g x).getD z) w) : opF P o n s w K' := by
  refine opF_of_wp hd hn (fun K1 Q hK1 => ?_)
  unfold Oper.wp execOp
  simp only [ho, Sem.run_bind, Sem.run_pure, Result.andThen_ok, mkA_eval, hm, hy, h.has K ht hz hk c]
  exact hK1 _ _ hK
theorem opF_makeMap (hd : o.dst = some d) (hn : d < n) (ho : o.op = .makeMap T none)
    (hK : ∀ w', MapV P kt kv w' w.heap.size 0 (fun _ => none) → Below w.heap.size w w' → K' (.map (some w.heap.size)) w') : opF P o n s w K' := by
  refine opF_of_wp hd hn (fun K1 Q hK1 => ?_)
  unfold Oper.wp execOp
  simp only [ho, Option.map_none, Sem.run_bind, run_makeMap, Sem.run_pure, Result.andThen_ok]
  exact hK1 _ _ (hK _ (MapV.made w) (below_alloc1 _ _))
theorem opF_put (m y v : Operand) (ho : o.op = .mapUpdate T m y v) (K : Maps.Keyed P kt) (ht : P.underlying T = some (.map kt E)) (h : MapV P kt kv w b k g) (hk9 : k < 9223372036854775807) (hinj : ∀ x y : κ, kv x = kv y → x = y)
    (x : κ) (hm : evF n s m = .map (some b)) (hy : evF n s y = kv x) {kl : Lit} (hk : keyOf P kt (kv x) = some kl)
    (hK : ∀ w', MapV P kt kv w' b (k + 1) (fun y => if y = x then some (evF n s v) else g y) → OldB [b] w w' → K' undef w') : opF P o n s w K' := by
  obtain ⟨w', hr, h1, h2⟩ := h.put K ht hk9 hinj hk (evF n s v)
  unfold opF execOp
  simp only [ho, hm, hy, Sem.run_bind, Sem.run_pure, hr, Result.andThen_ok]
  exact hK w' h1 h2
end

/-- a range over a function of ours; rounds may return -/
theorem wp_range_r {P : Program} {α : Type} {g : Operand} {ps : Array Tmp} {assign body : Code} {Q : Exit → Act → World → Prop} {a : Act} {w : World} {gf : Nat} {lb : Array Value} (enc : α → Array Value)
    (hg : a.eval g = .func (.func gf) #[] lb) (eg : ∀ args w, (callFunc gf args).run P w = .ok (.enter gf args) w) (hps : ∀ x, (enc x).size = ps.size)
    (J : List α → World → Prop) (M : List α → α → World → Prop) (Fin : List α → Prop) (Dn : World → Prop)
    (hJ : ∀ pre W r r', J pre W → LoopAt W w.heap.size r → J pre (W.putObj (w.heap.size + 1) (.loop r')))
    (hD : ∀ W r r', Dn W → LoopAt W w.heap.size r → Dn (W.putObj (w.heap.size + 1) (.loop r')))
    (h0 : ∀ r, J [] ((w.alloc (.deferred (some []))).alloc (.loop r)))
    (hiter : ∀ (r r' : Loop) (W : World), J [] W → LoopAt W w.heap.size r →
      (∀ pre x W1, M pre x W1 → LoopAt W1 w.heap.size r → YieldAt Fence.wide 0 P (w.heap.size + 1) (enc x) W1 fun e W' => (e = .returned (.bool true) ∧ J (pre ++ [x]) W' ∧ LoopAt W' w.heap.size r) ∨ (e = .returned (.bool false) ∧ Dn W' ∧ LoopAt W' w.heap.size r')) →
      Calls P gf (#[.func (.yield (w.heap.size + 1)) #[] #[]] ++ lb) W fun e W' => (∃ v, e = .returned v) ∧ ((∃ xs, J xs W' ∧ Fin xs ∧ LoopAt W' w.heap.size r) ∨ (Dn W' ∧ LoopAt W' w.heap.size r')))
    (hround : ∀ pre x W r, M pre x W → LoopAt W w.heap.size r →
      assign.wpIn (Fence.wide.inRound (w.heap.size + 1)) 0 P (Exit.then (fun a₁ W₁ => LoopAt W₁ w.heap.size r ∧ ∀ r', body.wpIn (Fence.wide.inRound (w.heap.size + 1)) 0 P (fun e _ W' => (e = .normal ∧ J (pre ++ [x]) W' ∨ e = .ret ∧ Dn W') ∧ LoopAt W' w.heap.size r') a₁ (W₁.putObj (w.heap.size + 1) (.loop r'))) (fun _ _ _ => False))
        { tmps := (ps.zip (enc x)).foldl (fun t (p, v) => t.setIfInBounds p v) a.tmps, defers := [] } W)
    (hdone : ∀ xs W, J xs W → Fin xs → W.heap[w.heap.size]? = some (.deferred (some [])) → Q .normal { a with defers := { target := .collected w.heap.size, args := #[] } :: a.defers } W)
    (hleave : ∀ W, Dn W → W.heap[w.heap.size]? = some (.deferred (some [])) → Q .ret { a with defers := { target := .collected w.heap.size, args := #[] } :: a.defers } W) :
    (Code.rangeFunc g ps assign body).wp P Q a w := by
  refine (wpIn_wide (n := 0)).1 (wpIn_rangeFunc ?_)
  intro fn hfn
  let rec0 : Loop := { state := .ready, pending := none, fn := fn, tmps := a.tmps, params := ps, assign := assign, body := body, defers := w.heap.size }
  let recD : Loop := { rec0 with state := .done, pending := some .ret }
  let W1 : World := (w.alloc (.deferred (some []))).alloc (.loop rec0)
  have hL1 : LoopAt W1 w.heap.size rec0 := by
    refine ⟨?_, ?_⟩
    · have := World.alloc_heap_new (w.alloc (.deferred (some []))) (.loop rec0)
      rwa [World.size_alloc] at this
    · exact (Below.heap_alloc _ _ _ (by simp)).trans (World.alloc_heap_new w _)
  refine ⟨w.heap.size + 1, [{ target := .collected w.heap.size, args := #[] }], W1, { target := .fn (.func gf) lb, args := #[.func (.yield (w.heap.size + 1)) #[] #[]] }, W1, gf,
    #[.func (.yield (w.heap.size + 1)) #[] #[]] ++ lb, W1, run_enterLoop_outer _ _ _ _ _, ?_, fun _ _ => trivial, ?_, fun h => (by simp [Fence.wide] at h), ?_⟩
  · simp only [resolve, hg]
    simp [go_sem]
  · simp [invoke, go_sem, eg]
  · refine callsIn_wide.2 ((hiter rec0 recD W1 (h0 rec0) hL1 ?_).mono ?_)
    · intro pre x W hm hl
      refine ⟨fn, _, assign, body, run_yield (P := P) (args := enc x) hl.1 (by show _ = ps.size; exact hps x), roundIn_of_wpIn trivial ?_⟩
      refine wpIn_mono (hround pre x W rec0 hm hl) ?_
      intro e a1 W2 h
      cases e with
      | normal =>
        obtain ⟨hl2, hb⟩ := h
        refine ⟨_, run_beginRound hl2.1 rfl, wpIn_mono (hb _) ?_⟩
        rintro e a3 W3 ⟨⟨rfl, hj3⟩ | ⟨rfl, hd3⟩, hl3⟩
        · exact ⟨_, _, run_endRound none hl3.1, .inl ⟨rfl, hJ _ _ _ _ hj3 hl3, hl3.put⟩⟩
        · exact ⟨_, _, run_endRound (some .ret) hl3.1, .inr ⟨rfl, hD _ _ _ hd3 hl3, hl3.put⟩⟩
      | exit id => exact h
      | goto t => exact h
      | ret => exact h
      | panic ch => exact h
      | outgrown => exact h
    · rintro e W2 ⟨⟨v, rfl⟩, ⟨xs, hj, hf, hl⟩ | ⟨hd, hl⟩⟩
      · exact ⟨none, _, run_endLoop (P := P) hl.1 (by show LoopState.ready ≠ LoopState.busy; decide), hdone xs _ (hJ _ _ _ _ hj hl) hf ((World.putObj_heap_other (by omega)).trans hl.2)⟩
      · refine ⟨some .ret, _, run_endLoop (P := P) hl.1 (by show LoopState.done ≠ LoopState.busy; decide), ?_⟩
        exact wpIn_ret (hleave _ (hD _ _ _ hd hl) ((World.putObj_heap_other (by omega)).trans hl.2))

theorem yield_mono {F : Fence} {m : Nat} {P : Program} {l : Nat} {args : Array Value} {W : World} {R R' : Ending → World → Prop} (h : YieldAt F m P l args W R) (hr : ∀ e w, R e w → R' e w) : YieldAt F m P l args W R' := by
  obtain ⟨fn, tmps, assign, body, h1, h2⟩ := h
  exact ⟨fn, tmps, assign, body, h1, RoundIn.mono h2 hr⟩
theorem LoopAt.oldB {W W' : World} {l : Nat} {r : Loop} {Bs : List Nat} (h : LoopAt W l r) (ho : OldB Bs W W') (hb : ∀ b ∈ Bs, b ≠ l ∧ b ≠ l + 1) : LoopAt W' l r :=
  ⟨(ho.block _ (Array.getElem?_eq_some_iff.1 h.1).1 (fun hm => (hb _ hm).2 rfl)).trans h.1, (ho.block _ (Array.getElem?_eq_some_iff.1 h.2).1 (fun hm => (hb _ hm).1 rfl)).trans h.2⟩
theorem wpIn_abs {P : Program} {F : Fence} {m n : Nat} {c : Code} {Q : Exit → Act → World → Prop} {ds : List Deferred} {S : Nat → Value} {w : World} (h : ∀ s', s' = S → c.wpIn F m P Q (mkA n s' ds) w) : c.wpIn F m P Q (mkA n S ds) w := h S rfl
theorem callQ {P : Program} {f : FuncId} {args : Array Value} {w0 w : World} {v : Value} (h : Calls P f args w fun e w' => e = .returned v ∧ Below w.heap.size w w') (hb : Below w0.heap.size w0 w) : Calls P f args w fun e w'' => e = .returned v ∧ Below w0.heap.size w0 w'' :=
  h.mono fun _ _ h => ⟨h.1, hb.trans (h.2.mono hb.size)⟩
theorem oldB_grown {w w' : World} {row : Option Nat} {Bs : List Nat} (hg : w.grownBy w' row) (hr : ∀ g, row = some g → g ∈ Bs) : OldB Bs w w' :=
  ⟨hg.os, hg.tape, hg.output, hg.size, fun k hk hn => hg.block k hk (fun e => hn (hr k e.symm))⟩
theorem Rd.oldN {α : Type} {f : α → List Value} {m : Nat} {w w' : World} {Bs : List Nat} {a : Option Addr} {l : List α} (h : Rd f m w a l) (ho : OldB Bs w w') (hn : l ≠ [] → ∀ b, a = some b → b.block ∉ Bs) : Rd f m w' a l := by
  by_cases e : l = []
  · exact .inl e
  · exact Rd.oldB h ho (hn e)
theorem hmf (fn : Fn) (first cap : Array Value) (w : World) : (Instr.makeFunc fn first cap).run Tryz.prog w = .ok (.func fn first cap) w := rfl
end

section
open Go.RowKit


/-- the first one with p; -1: none -/
def idxOf {α : Type} (p : α → Bool) (l : List α) : Int := match l.findIdx? p with | some i => i | none => -1
theorem idx_found {α : Type} {p : α → Bool} {l : List α} {k : Nat} (hk : k < l.length) (h : (l.take k).any p = false) (hp : p l[k] = true) : idxOf p l = k := by
  have : l.findIdx? p = some k := by
    rw [List.findIdx?_eq_some_iff_getElem]; refine ⟨hk, hp, fun j hj => ?_⟩; rw [List.any_eq_false] at h
    exact by simpa using h l[j] (List.mem_take_iff_getElem.2 ⟨j, by omega, rfl⟩)
  unfold idxOf; rw [this]
theorem idx_none {α : Type} {p : α → Bool} {l : List α} (h : l.any p = false) : idxOf p l = -1 := by
  have : l.findIdx? p = none := by
    rw [List.findIdx?_eq_none_iff]; intro x hx; rw [List.any_eq_false] at h
    simpa using h x hx
  unfold idxOf; rw [this]
theorem idx_any {α : Type} (p : α → Bool) (l : List α) : decide (0 ≤ idxOf p l) = l.any p := by
  cases h : l.any p with
  | false => rw [idx_none h]; rfl
  | true =>
    unfold idxOf
    cases hf : l.findIdx? p with
    | none =>
      rw [List.findIdx?_eq_none_iff] at hf; rw [List.any_eq_true] at h; obtain ⟨x, hx, hp⟩ := h; rw [hf x hx] at hp; cases hp
    | some i => simp
theorem idx_any' {α : Type} (p : α → Bool) (l : List α) : decide (idxOf p l ≥ 0) = l.any p := idx_any p l
theorem rd1 {w : World} {g : Nat} {x : Int} (h : Cells w g [.int .i64 x]) : RdInts w (some ⟨g, 0, none⟩) [x] := Cells.rd (f := int1) (m := 1) (l := [x]) (fun _ => rfl) h
def outB (hi : Int) (l : List Int) : Bool := l.any (fun n => !inI n 0 hi)
theorem out1 {hi x : Int} : outB hi [x] = (!inI x 0 hi) := by simp [outB]
theorem signed_eq {x : Int} (hx : 0 ≤ x ∧ x ≤ 16777215) : x - x / 8388608 * 16777216 = signI x := by unfold signI; split <;> omega

set_option maxRecDepth 100000 in
set_option maxHeartbeats 1000000 in
theorem oout1_any (hi n : Int) (B : Nat) (w : World) (hB : w.cell? ⟨B, 0, none⟩ = some (.int .i64 hi)) :
    Calls Tryz.prog 107 #[.int .i64 n, .pointer (some ⟨B, 0, none⟩)] w (fun e w' => e = .returned (.bool (!inI n 0 hi)) ∧ w = w') := by
 refine enter_F Tryz.func107 rfl Tryz.ntmps107 (by simp) ?_
 intro s0 hs; have sl0 : s0 0 = .int .i64 n := hs 0 (by simp); have sl1 : s0 1 = .pointer (some ⟨B, 0, none⟩) := hs 1 (by simp); clear hs; have HB := hid (OldB.refl [] w)
 repeat ((fail_if_success refine stp ?_); with_reducible go_step)
 refine region_F ?_; refine pl ?_; refine listF_abs (fun s1 z' => ?_); replace sl0 := gs 0 z' sl0; replace sl1 := gs 1 z' sl1; clear z'; refine listF_nil ?_
 repeat ((fail_if_success refine stp ?_); with_reducible go_step)
 refine region_F ?_
 iterate 3 refine pl ?_
 refine listF_abs (fun s2 z' => ?_); replace sl0 := gs 0 z' sl0; replace sl1 := gs 1 z' sl1; have sl6 := gu 6 z'; clear z'
 refine boolG sl6 (fun sl6' h6 => ?_) (fun sl6' h6 => ?_) <;> (clear sl6; have sl6 := sl6'; clear sl6')
 ·skip
  refine pn true ?_; refine pn true ?_; refine pn true ?_; refine pl ?_; refine pl ?_; refine listF_abs (fun s3 z' => ?_); have sl3 := gu 3 z'; clear z' sl0 sl1 sl6; refine listF_nil ?_
  repeat ((fail_if_success refine stp ?_); with_reducible go_step)
  refine ret_F _ (res_t Tryz.results107 ((getD_F (by decide)).trans sl3)) ?_; exact ⟨ret_bool (by unfold inI; rw [Bool.eq_iff_iff]; simp at *; try omega), rfl⟩
 ·skip
  iterate 3 refine py ?_
  refine pl ?_; refine pl ?_; refine listF_abs (fun s4 z' => ?_); have sl3 := gu 3 z'; clear z' sl0 sl1 sl6; refine listF_nil ?_
  repeat ((fail_if_success refine stp ?_); with_reducible go_step)
  refine ret_F _ (res_t Tryz.results107 ((getD_F (by decide)).trans sl3)) ?_; exact ⟨ret_bool (by unfold inI; rw [Bool.eq_iff_iff]; simp at *; try omega), rfl⟩

set_option maxRecDepth 100000 in
set_option maxHeartbeats 1000000 in
theorem idxInt_any (a : Option Addr) (c : Nat) (l : List Int) (hi : Int) (B : Nat) (w : World) (hl : l.length ≤ 9223372036854775807) (hR : RdInts w a l) (hB : w.cell? ⟨B, 0, none⟩ = some (.int .i64 hi)) (hBs : B < w.heap.size) :
    Calls Tryz.prog 102 #[.slice a l.length c, .func (.func 107) #[] #[.pointer (some ⟨B, 0, none⟩)]] w (fun e w' => e = .returned (.int .i64 (idxOf (fun n => !inI n 0 hi) l)) ∧ Below w.heap.size w w') := by
 have HR := hid hR; clear hR
 refine enter_F Tryz.func102 rfl Tryz.ntmps102 (by simp) ?_
 intro s0 hs; have sl0 : s0 0 = .slice a l.length c := hs 0 (by simp); have sl1 : s0 1 = .func (.func 107) #[] #[.pointer (some ⟨B, 0, none⟩)] := hs 1 (by simp); clear hs; have HB := hid (OldB.refl [] w)
 repeat ((fail_if_success refine stp ?_); with_reducible go_step)
 refine region_F ?_; refine pl ?_; refine listF_abs (fun s1 z' => ?_); replace sl0 := gs 0 z' sl0; replace sl1 := gs 1 z' sl1; clear z'; refine listF_nil ?_
 repeat ((fail_if_success refine stp ?_); with_reducible go_step)
 refine region_F ?_
 iterate 3 refine pl ?_
 refine listF_abs (fun s2 z' => ?_); replace sl0 := gs 0 z' sl0; replace sl1 := gs 1 z' sl1; have sl7 := gu 7 z'; have sl8 := gu 8 z'; clear z'; refine listF_nil ?_
 repeat ((fail_if_success refine stp ?_); with_reducible go_step)
 have hc0_0 := hid sl0; have hc0_1 := hid sl1; have hc0_7 := hid sl7; refine loop_F (n := 19) (fun kJ sJ wJ => ∃ (k : Nat), kJ = l.length - k ∧ sJ 8 = .int .i64 (k : Int) ∧ sJ 0 = s2 0 ∧ sJ 1 = s2 1 ∧ sJ 7 = s2 7 ∧ OldB [] w wJ ∧ k ≤ l.length ∧ Hid ((l.take k).any (fun n => !inI n 0 hi) = false)) ⟨0, rfl, (by first | exact sl8 | (rw [sl8]; go_num) | (rw [sl8]; rfl)), rfl, rfl, rfl, OldB.refl _ _, Nat.zero_le _, hid rfl⟩ ?_; clear sl8; rintro kJ s3 w4 ⟨k, rfl, sl8, e0, e1, e7, hb5, hkl, hno⟩; replace sl0 := e0.trans sl0; clear e0; replace sl1 := e1.trans sl1; clear e1; replace sl7 := e7.trans sl7; clear e7; have hoJ := hb5; replace HB := hid (HB.out.more hb5 (by simp; try omega)); clear hb5; have HoJ := hid hoJ; clear hoJ; have HL6 := HoJ; clear HoJ
 repeat ((fail_if_success refine stp ?_); with_reducible go_step)
 refine region_F ?_; refine pl ?_; refine listF_abs (fun s7 z' => ?_); replace sl0 := gs 0 z' sl0; replace sl1 := gs 1 z' sl1; replace sl7 := gs 7 z' sl7; replace sl8 := gs 8 z' sl8; have sl9 := gu 9 z'; clear z'; refine listF_nil ?_
 repeat ((fail_if_success refine stp ?_); with_reducible go_step)
 refine cond_E sl9 (by decide) ?_ ?_ <;> (clear sl9; intro h9 sl9)
 ·skip
  have hlt : k < l.length := by simpa using h9
  obtain ⟨b, off, rfl, hb, h0⟩ := RdInts.ne (Rd.oldB HR.out HB.out (by simp)) hlt
  repeat ((fail_if_success refine stp ?_); with_reducible go_step)
  refine region_F ?_; refine pl ?_; refine pl ?_; refine listF_abs (fun s8 z' => ?_); replace sl0 := gs 0 z' sl0; replace sl1 := gs 1 z' sl1; have sl5 := gu 5 z'; replace sl7 := gs 7 z' sl7; replace sl8 := gs 8 z' sl8; clear z' sl9; refine listF_nil ?_
  repeat ((fail_if_success refine stp ?_); with_reducible go_step)
  refine region_F ?_
  iterate 5 refine pl ?_
  refine listF_step rfl (fun K' hK => ?_); unfold opF; go_simp; refine (oout1_any hi l[k] B _ ((HB.out.toBelow.cell (p := ⟨B, 0, none⟩) hBs).trans hB)).mono ?_; rintro e w' ⟨rfl, rfl⟩; refine ⟨_, rfl, hK _ _ ?_⟩; clear hK K'; refine listF_abs (fun s10 z' => ?_); replace sl0 := gs 0 z' sl0; replace sl1 := gs 1 z' sl1; replace sl5 := gs 5 z' sl5; replace sl7 := gs 7 z' sl7; replace sl8 := gs 8 z' sl8; have sl16 := gu 16 z'; clear z'; refine listF_nil ?_
  repeat ((fail_if_success refine stp ?_); with_reducible go_step)
  refine cond_E sl16 (by decide) ?_ ?_ <;> (clear sl16; intro h16 sl16)
  ·skip
   have Hpk := hid (idx_found hlt hno.out h16)
   repeat ((fail_if_success refine stp ?_); with_reducible go_step)
   refine region_F ?_; refine pl ?_; refine pl ?_; refine listF_abs (fun s11 z' => ?_); have sl4 := gu 4 z'; clear z' sl0 sl1 sl5 sl7 sl8 sl16; refine listF_nil ?_
   repeat ((fail_if_success refine stp ?_); with_reducible go_step)
   refine ret_F _ (res_t Tryz.results102 ((getD_F (by decide)).trans sl4)) ?_; exact ⟨ret_int Hpk.out.symm, HB.out.toBelow⟩
  ·skip
   have hpk := hid h16
   repeat ((fail_if_success refine stp ?_); with_reducible go_step)
   refine region_F ?_; refine pl ?_; refine pl ?_; refine listF_abs (fun s12 z' => ?_); replace sl0 := gs 0 z' sl0; replace sl1 := gs 1 z' sl1; replace sl7 := gs 7 z' sl7; replace sl8 := gu 8 z'; clear z' sl5 sl16; refine listF_nil ?_
   repeat ((fail_if_success refine stp ?_); with_reducible go_step)
   refine ⟨_, _, rfl, ?_, k + 1, rfl, (by first | (with_reducible exact sl8) | (rw [sl8]; (with_reducible go_num); done) | (rw [sl8, IntWalk.i64_in] <;> first | ((with_reducible go_num); done) | omega) | (rw [sl8]; go_num; done) | (rw [sl8]; simp; done) | (rw [sl8]; simp; omega)), (sl0.trans hc0_0.out.symm), (sl1.trans hc0_1.out.symm), (sl7.trans hc0_7.out.symm), HL6.out, by omega, hid (by rw [any_take_succ _ _ _ hlt, hno.out, hpk.out]; rfl)⟩
   omega
 ·skip
  have hge : l.length ≤ k := by simpa using h9
  have hno2 : l.any (fun n => !inI n 0 hi) = false := by have := hno.out; rwa [List.take_of_length_le hge] at this
  have Hno := hid hno2; clear hno2
  repeat ((fail_if_success refine stp ?_); with_reducible go_step)
  clear HL6; clear hc0_0 hc0_1 hc0_7; refine region_F ?_; refine pl ?_; refine listF_abs (fun s13 z' => ?_); have sl4 := gu 4 z'; clear z' sl0 sl1 sl7 sl8 sl9; refine listF_nil ?_
  repeat ((fail_if_success refine stp ?_); with_reducible go_step)
  refine ret_F _ (res_t Tryz.results102 ((getD_F (by decide)).trans sl4)) ?_; exact ⟨ret_int (idx_none Hno.out).symm, HB.out.toBelow⟩

set_option maxRecDepth 100000 in
set_option maxHeartbeats 1000000 in
theorem conInt_any (a : Option Addr) (c : Nat) (l : List Int) (hi : Int) (B : Nat) (w : World) (hl : l.length ≤ 9223372036854775807) (hR : RdInts w a l) (hB : w.cell? ⟨B, 0, none⟩ = some (.int .i64 hi)) (hBs : B < w.heap.size) :
    Calls Tryz.prog 106 #[.slice a l.length c, .func (.func 107) #[] #[.pointer (some ⟨B, 0, none⟩)]] w (fun e w' => e = .returned (.bool (outB hi l)) ∧ Below w.heap.size w w') := by
 have HR := hid hR; clear hR
 refine enter_F Tryz.func106 rfl Tryz.ntmps106 (by simp) ?_
 intro s0 hs; have sl0 : s0 0 = .slice a l.length c := hs 0 (by simp); have sl1 : s0 1 = .func (.func 107) #[] #[.pointer (some ⟨B, 0, none⟩)] := hs 1 (by simp); clear hs; have HB := hid (OldB.refl [] w)
 repeat ((fail_if_success refine stp ?_); with_reducible go_step)
 refine region_F ?_; refine pl ?_; refine listF_abs (fun s1 z' => ?_); replace sl0 := gs 0 z' sl0; replace sl1 := gs 1 z' sl1; clear z'; refine listF_nil ?_
 repeat ((fail_if_success refine stp ?_); with_reducible go_step)
 refine region_F ?_; refine pl ?_; refine pl ?_; refine listF_step rfl (fun K' hK => ?_); unfold opF; go_simp; refine (idxInt_any a c l hi B _ hl HR.out hB hBs).mono ?_; rintro e w2 ⟨rfl, hb3⟩; refine ⟨_, rfl, hK _ _ ?_⟩; clear hK K'; replace HB := hid (HB.out.below hb3); clear hb3; refine pl ?_; refine pl ?_; refine listF_abs (fun s4 z' => ?_); have sl4 := gu 4 z'; clear z' sl0 sl1; refine listF_nil ?_
 repeat ((fail_if_success refine stp ?_); with_reducible go_step)
 refine ret_F _ (res_t Tryz.results106 ((getD_F (by decide)).trans sl4)) ?_; exact ⟨ret_bool (idx_any' _ _), HB.out.toBelow⟩

set_option maxRecDepth 100000 in
set_option maxHeartbeats 1000000 in
theorem oout_any (hi : Int) (a : Option Addr) (c : Nat) (l : List Int) (w : World) (hl : l.length ≤ 9223372036854775807) (hR : RdInts w a l) :
    Calls Tryz.prog 82 #[.int .i64 hi, .slice a l.length c] w (fun e w' => e = .returned (.bool (outB hi l)) ∧ Below w.heap.size w w') := by
 have HR := hid hR; clear hR
 refine enter_F Tryz.func82 rfl Tryz.ntmps82 (by simp) ?_
 intro s0 hs; have sl0 : s0 0 = .int .i64 hi := hs 0 (by simp); have sl1 : s0 1 = .slice a l.length c := hs 1 (by simp); clear hs; have HB := hid (OldB.refl [] w)
 repeat ((fail_if_success refine stp ?_); with_reducible go_step)
 refine region_F ?_; refine pa (fun w1 B2 hB kb2' hb2 => ?_); have gb2 := HB.out.gB hB; have eb2 := eB hB; clear hB; replace HB := hid (HB.out.below hb2); clear hb2; have kb2 := kb2'; clear kb2'; have qb2 := kb2.1; refine pl ?_; refine listF_abs (fun s3 z' => ?_); replace sl1 := gs 1 z' sl1; have sl2 := gu 2 z'; clear z' sl0; refine listF_nil ?_
 repeat ((fail_if_success refine stp ?_); with_reducible go_step)
 refine region_F ?_; refine pl ?_; refine pl ?_; refine listF_step rfl (fun K' hK => ?_); unfold opF; go_simp; refine (conInt_any a c l hi B2 _ hl (Rd.oldB HR.out HB.out (by simp)) (kb2.cell 0 rfl) kb2.1).mono ?_; rintro e w4 ⟨rfl, hb5⟩; refine ⟨_, rfl, hK _ _ ?_⟩; clear hK K'; clear qb2; replace kb2 := kb2.at hb5; replace HB := hid (HB.out.below hb5); clear hb5; have qb2 := kb2.1; refine pl ?_; refine listF_abs (fun s6 z' => ?_); have sl4 := gu 4 z'; clear z' sl1 sl2; refine listF_nil ?_
 repeat ((fail_if_success refine stp ?_); with_reducible go_step)
 refine ret_F _ (res_t Tryz.results82 ((getD_F (by decide)).trans sl4)) ?_; exact ⟨rfl, HB.out.toBelow⟩


theorem oout_1 (hi x : Int) (B c : Nat) (w : World) (hB : Cells w B [.int .i64 x]) : Calls Tryz.prog 82 #[.int .i64 hi, .slice (some ⟨B, 0, none⟩) 1 c] w (fun e w' => e = .returned (.bool (!inI x 0 hi)) ∧ Below w.heap.size w w') := by
  have := oout_any hi (some ⟨B, 0, none⟩) c [x] w (by simp) (rd1 hB); rw [out1] at this; exact this

set_option maxRecDepth 100000 in
set_option maxHeartbeats 1000000 in
theorem unpack_any (x q m : Int) (w : World) (hx : 0 ≤ x ∧ x ≤ 16777215) (hq : x / 128 = q) (hm : x % 128 = m) :
    Calls Tryz.prog 108 #[.int .i64 x] w (fun e w' => e = .returned (.tuple #[.int .i64 q, .int .i64 m]) ∧ w = w') := by
 have hb := i64_and127' x
 have hs : x.fdiv 128 = q := by rw [← hq, Int.fdiv_eq_ediv_of_nonneg _ (by decide)]
 rw [hm] at hb
 refine enter_F Tryz.func108 rfl Tryz.ntmps108 (by simp) ?_
 intro s0 hs; have sl0 : s0 0 = .int .i64 x := hs 0 (by simp); clear hs; have HB := hid (OldB.refl [] w)
 repeat ((fail_if_success refine stp ?_); with_reducible go_step)
 refine region_F ?_; refine pl ?_; refine pl ?_; refine listF_abs (fun s1 z' => ?_); replace sl0 := gs 0 z' sl0; clear z'; refine listF_nil ?_
 repeat ((fail_if_success refine stp ?_); with_reducible go_step)
 refine region_F ?_
 iterate 6 refine pl ?_
 refine listF_abs (fun s2 z' => ?_); have sl2 := gu 2 z'; have sl3 := gu 3 z'; clear z' sl0; refine listF_nil ?_
 repeat ((fail_if_success refine stp ?_); with_reducible go_step)
 refine ret_F _ (res_tt Tryz.results108 ((getD_F (by decide)).trans sl2) ((getD_F (by decide)).trans sl3)) ?_; exact ⟨rfl, rfl⟩

set_option maxRecDepth 100000 in
set_option maxHeartbeats 1000000 in
theorem signed_any (x : Int) (w : World) (hx : 0 ≤ x ∧ x ≤ 16777215) :
    Calls Tryz.prog 118 #[.int .i64 x] w (fun e w' => e = .returned (.int .i64 (signI x)) ∧ w = w') := by
 have hs : x.fdiv 8388608 = x / 8388608 := Int.fdiv_eq_ediv_of_nonneg _ (by decide); have he := signed_eq hx; obtain ⟨q, hq⟩ : ∃ q, x / 8388608 = q := ⟨_, rfl⟩; rw [hq] at hs he; have w1 : IntKind.i64.wrap (q * 16777216) = q * 16777216 := IntWalk.i64_in _ (by omega)
 have w2 : IntKind.i64.wrap (signI x) = signI x := by rw [← he]; exact IntWalk.i64_in _ (by omega)
 refine enter_F Tryz.func118 rfl Tryz.ntmps118 (by simp) ?_
 intro s0 hs; have sl0 : s0 0 = .int .i64 x := hs 0 (by simp); clear hs; have HB := hid (OldB.refl [] w)
 repeat ((fail_if_success refine stp ?_); with_reducible go_step)
 refine region_F ?_; refine pl ?_; refine listF_abs (fun s1 z' => ?_); replace sl0 := gs 0 z' sl0; clear z'; refine listF_nil ?_
 repeat ((fail_if_success refine stp ?_); with_reducible go_step)
 refine region_F ?_
 iterate 6 refine pl ?_
 refine listF_abs (fun s2 z' => ?_); have sl2 := gu 2 z'; clear z' sl0; refine listF_nil ?_
 repeat ((fail_if_success refine stp ?_); with_reducible go_step)
 refine ret_F _ (res_t Tryz.results118 ((getD_F (by decide)).trans sl2)) ?_; exact ⟨rfl, rfl⟩

set_option maxRecDepth 100000 in
set_option maxHeartbeats 1000000 in
theorem odecode_any (x : Int) (w : World) (hx : 0 ≤ x ∧ x ≤ 16777215) :
    Calls Tryz.prog 83 #[.int .i64 x] w (fun e w' => e = .returned (.agg #[.int .i64 (decodeO x).op, .int .i64 (decodeO x).fr, .int .i64 (decodeO x).tt, .int .i64 (decodeO x).nx]) ∧ Below w.heap.size w w') := by
 obtain ⟨d1, hd1⟩ : ∃ a, x / 128 = a := ⟨_, rfl⟩; obtain ⟨d2, hd2⟩ : ∃ a, d1 / 128 = a := ⟨_, rfl⟩; obtain ⟨d3, hd3⟩ : ∃ a, d2 / 128 = a := ⟨_, rfl⟩; obtain ⟨m1, hm1⟩ : ∃ a, x % 128 = a := ⟨_, rfl⟩; obtain ⟨m2, hm2⟩ : ∃ a, d1 % 128 = a := ⟨_, rfl⟩; obtain ⟨m3, hm3⟩ : ∃ a, d2 % 128 = a := ⟨_, rfl⟩; have Hd := hid (show decodeO x = ⟨d3, m3, m2, m1⟩ by unfold decodeO; rw [hd1, hd2, hd3, hm1, hm2, hm3]); skip
 refine enter_F Tryz.func83 rfl Tryz.ntmps83 (by simp) ?_
 intro s0 hs; have sl0 : s0 0 = .int .i64 x := hs 0 (by simp); clear hs; have HB := hid (OldB.refl [] w)
 repeat ((fail_if_success refine stp ?_); with_reducible go_step)
 refine region_F ?_; refine pa (fun w1 B2 hB kb2' hb2 => ?_); have gb2 := HB.out.gB hB; have eb2 := eB hB; clear hB; replace HB := hid (HB.out.below hb2); clear hb2; have kb2 := kb2'; clear kb2'; have qb2 := kb2.1; refine listF_abs (fun s3 z' => ?_); replace sl0 := gs 0 z' sl0; have sl2 := gu 2 z'; clear z'; refine listF_nil ?_
 repeat ((fail_if_success refine stp ?_); with_reducible go_step)
 refine region_F ?_; refine pl ?_; refine listF_step rfl (fun K' hK => ?_); unfold opF; go_simp; refine (unpack_any x d1 m1 _ hx hd1 hm1).mono ?_; rintro e w' ⟨rfl, rfl⟩; refine ⟨_, rfl, hK _ _ ?_⟩; clear hK K'
 iterate 5 refine pl ?_
 have cb2_0 := kb2.cell 0 rfl; have cb2_1 := kb2.cell 1 rfl; have cb2_2 := kb2.cell 2 rfl; have cb2_3 := kb2.cell 3 rfl; have zb2 := kb2.2.2; refine pl ?_; refine listF_absw (fun w5 hw' => ?_); have kb2' := cells_of hw' (Cells.set (i := 3) (kb2))
 (try simp only [stC, List.set_cons_zero, List.set_cons_succ] at kb2')
 have hb6 : OldB [B2] w1 w5 := oldset hw'; clear hw'; clear cb2_0 cb2_1 cb2_2 cb2_3 zb2; clear qb2; replace kb2 := kb2'; replace HB := hid (HB.out.more hb6 (by simp; try omega)); clear hb6; have qb2 := kb2.1; clear kb2'; refine listF_abs (fun s7 z' => ?_); replace sl0 := gu 0 z'; replace sl2 := gs 2 z' sl2; clear z'; refine listF_nil ?_
 repeat ((fail_if_success refine stp ?_); with_reducible go_step)
 refine region_F ?_; refine pl ?_; refine listF_step rfl (fun K' hK => ?_); unfold opF; go_simp; refine (unpack_any d1 d2 m2 _ (by omega) hd2 hm2).mono ?_; rintro e w' ⟨rfl, rfl⟩; refine ⟨_, rfl, hK _ _ ?_⟩; clear hK K'
 iterate 5 refine pl ?_
 have cb2_0 := kb2.cell 0 rfl; have cb2_1 := kb2.cell 1 rfl; have cb2_2 := kb2.cell 2 rfl; have cb2_3 := kb2.cell 3 rfl; have zb2 := kb2.2.2; refine pl ?_; refine listF_absw (fun w9 hw' => ?_); have kb2' := cells_of hw' (Cells.set (i := 2) (kb2))
 (try simp only [stC, List.set_cons_zero, List.set_cons_succ] at kb2')
 have hb10 : OldB [B2] w5 w9 := oldset hw'; clear hw'; clear cb2_0 cb2_1 cb2_2 cb2_3 zb2; clear qb2; replace kb2 := kb2'; replace HB := hid (HB.out.more hb10 (by simp; try omega)); clear hb10; have qb2 := kb2.1; clear kb2'; refine listF_abs (fun s11 z' => ?_); replace sl0 := gu 0 z'; replace sl2 := gs 2 z' sl2; clear z'; refine listF_nil ?_
 repeat ((fail_if_success refine stp ?_); with_reducible go_step)
 refine region_F ?_; refine pl ?_; refine listF_step rfl (fun K' hK => ?_); unfold opF; go_simp; refine (unpack_any d2 d3 m3 _ (by omega) hd3 hm3).mono ?_; rintro e w' ⟨rfl, rfl⟩; refine ⟨_, rfl, hK _ _ ?_⟩; clear hK K'
 iterate 4 refine pl ?_
 have cb2_0 := kb2.cell 0 rfl; have cb2_1 := kb2.cell 1 rfl; have cb2_2 := kb2.cell 2 rfl; have cb2_3 := kb2.cell 3 rfl; have zb2 := kb2.2.2; refine pl ?_; refine listF_absw (fun w13 hw' => ?_); have kb2' := cells_of hw' (Cells.set (i := 0) (kb2))
 (try simp only [stC, List.set_cons_zero, List.set_cons_succ] at kb2')
 have hb14 : OldB [B2] w9 w13 := oldset hw'; clear hw'; clear cb2_0 cb2_1 cb2_2 cb2_3 zb2; clear qb2; replace kb2 := kb2'; replace HB := hid (HB.out.more hb14 (by simp; try omega)); clear hb14; have qb2 := kb2.1; clear kb2'; refine pl ?_; have cb2_0 := kb2.cell 0 rfl; have cb2_1 := kb2.cell 1 rfl; have cb2_2 := kb2.cell 2 rfl; have cb2_3 := kb2.cell 3 rfl; have zb2 := kb2.2.2; refine pl ?_; refine listF_absw (fun w15 hw' => ?_); have kb2' := cells_of hw' (Cells.set (i := 1) (kb2))
 (try simp only [stC, List.set_cons_zero, List.set_cons_succ] at kb2')
 have hb16 : OldB [B2] w13 w15 := oldset hw'; clear hw'; clear cb2_0 cb2_1 cb2_2 cb2_3 zb2; clear qb2; replace kb2 := kb2'; replace HB := hid (HB.out.more hb16 (by simp; try omega)); clear hb16; have qb2 := kb2.1; clear kb2'; refine listF_abs (fun s17 z' => ?_); replace sl2 := gs 2 z' sl2; clear z' sl0; refine listF_nil ?_
 repeat ((fail_if_success refine stp ?_); with_reducible go_step)
 refine region_F ?_; have cb2_0 := kb2.cell 0 rfl; have cb2_1 := kb2.cell 1 rfl; have cb2_2 := kb2.cell 2 rfl; have cb2_3 := kb2.cell 3 rfl; refine pl ?_; have zb2 := kb2.2.2; refine pl ?_; refine listF_absw (fun w18 hw' => ?_); have kb2' := cells_of hw' (Cells.set (i := 3) (Cells.set (i := 2) (Cells.set (i := 1) (Cells.set (i := 0) (kb2)))))
 (try simp only [stC, List.set_cons_zero, List.set_cons_succ] at kb2')
 have hb19 : OldB [B2] w15 w18 := oldset hw'; clear hw'; clear cb2_0 cb2_1 cb2_2 cb2_3 zb2; clear qb2; replace kb2 := kb2'; replace HB := hid (HB.out.more hb19 (by simp; try omega)); clear hb19; have qb2 := kb2.1; clear kb2'; refine listF_abs (fun s20 z' => ?_); replace sl2 := gs 2 z' sl2; clear z'; refine listF_nil ?_
 repeat ((fail_if_success refine stp ?_); with_reducible go_step)
 have cb2_0 := kb2.cell 0 rfl; have cb2_1 := kb2.cell 1 rfl; have cb2_2 := kb2.cell 2 rfl; have cb2_3 := kb2.cell 3 rfl; refine ret_F _ (res_c Tryz.results83 ((getD_F (by decide)).trans sl2) (load_t27 cb2_0 cb2_1 cb2_2 cb2_3)) ?_; exact ⟨by rw [Hd.out], HB.out.toBelow⟩
end


end Go.Proofs.YtleknidlgmmgbaaGreat
