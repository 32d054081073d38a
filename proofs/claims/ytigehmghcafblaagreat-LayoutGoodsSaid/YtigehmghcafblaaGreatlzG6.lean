/- Ranges over a function that panics; regions that draw their order inside a round; deferred calls that recover; loops whose rounds defer. -/
import Derived.Test.YtigehmghcafblaaGreatlzN5
import Derived.Test.YtigehmghcafblaaGreatProg
import Derived.Laws.BitsLemmas
import Derived.RecoverIn
import Derived.OrdersIn
set_option linter.all false
namespace Go.Proofs.YtigehmghcafblaaGreat

section
set_option linter.all false
open Go.RowKit

/-- facts of a list's type t and its element's type e: m cells, so many bytes -/
structure ElemT (P : Program) (t e : TypeId) (m bytes : Nat) : Prop where
  ht : P.underlying t = some (.slice e)
  he : ∃ i z, P.info? e = some i ∧ i.zero = some z ∧ i.size = m ∧ i.bytes = bytes ∧ z.cells.size = m
  hm : 0 < m
  hb : 0 < bytes
theorem ElemT.mk' {P : Program} {t e : TypeId} {m bytes : Nat} {z : Value} (ht : P.underlying t = some (.slice e)) (h : (P.info? e).map (fun i => (i.zero, i.size, i.bytes)) = some (some z, m, bytes)) (hz : z.cells.size = m) (hm : 0 < m := by decide) (hb : 0 < bytes := by decide) : ElemT P t e m bytes := by
  refine ⟨ht, ?_, hm, hb⟩
  cases hi : P.info? e with
  | none => rw [hi] at h; cases h
  | some i =>
    rw [hi] at h
    simp only [Option.map_some, Option.some.injEq, Prod.mk.injEq] at h
    exact ⟨i, z, rfl, h.1, h.2.1, h.2.2, hz⟩
/-- a list of the call's own, by its value -/
def En.sl {α : Type} (f : α → List Value) (m : Nat) (T : TypeId) (l : List α) (v : Value) : En := .ex fun p : Option Addr × Nat => .star [.pure (v = .slice p.1 l.length p.2), .own f m T (.slice p.1 l.length p.2) l]
/-- what a call answers, by its value -/
def En.rt {X : Type} (val : X → Value) (E : X → List En) (v : Value) : En := .ex fun x => .star (.pure (v = val x) :: E x)
/-- a block of cells, by its pointer -/
def En.ptr (v : Value) (l : List Value) : En := .ex fun b => .star [.pure (v = .pointer (some ⟨b, 0, none⟩)), .cells b l]
section
variable (w0 : World) (Bs : List Nat) (P : Program)
/-- an operation that makes A of its result out of what stands in H, but not in H' -/
def Ef (n : Nat) (o : Oper) (L : List (Nat × Value)) (H : List En) (A : Value → En) (H' : List En) : Prop := ∀ g w, Mem w0 Bs H w → opF P o n (tab L g) w (fun v w' => Mem w0 Bs (A v :: H') w')
end
section
variable {w0 : World} {Bs : List Nat} {P : Program} {n : Nat} {L : List (Nat × Value)} {H H' : List En} {ops : Array Oper} {K : (Nat → Value) → World → Prop} {os : List Oper} {u v : Value} {d : Nat} {op : Op} {T ty : TypeId} {pos : String} {af : Array Edge} {gd : Option (Nat × Bool)} {x y : Operand} {A : Value → En} {o : Oper}
theorem GoL.e (h : Ef w0 Bs P n ⟨some d, op, ty, pos, af, none⟩ L H A H') (hr : ∀ v, GoL w0 Bs P ops n K os ((d, v) :: L) (A v :: H')) : GoL w0 Bs P ops n K (⟨some d, op, ty, pos, af, none⟩ :: os) L H :=
  .mk fun g w hw => listF_step rfl fun K' hK => uponF.mono (fun v w' hm => hK v w' ((hr v).go g w' hm)) (h g w hw)
theorem GoL.cx {f : FuncId} {args : Array Value} {X : Type} {val : X → Value} {φ : X → Prop} (hc : ∀ w, Mem w0 Bs H w → Calls P f args w (fun e w' => ∃ x, e = .returned (val x) ∧ Below w.heap.size w w' ∧ φ x)) (hr : ∀ x, φ x → GoL w0 Bs P ops n K os ((d, val x) :: L) H) (h : Cl P n ⟨some d, op, ty, pos, af, none⟩ L f args := by exact Cl.q) : GoL w0 Bs P ops n K (⟨some d, op, ty, pos, af, none⟩ :: os) L H :=
  .mk fun g w hw => listF_step rfl fun K' hK => by
    unfold opF; rw [h g w]; exact (hc w hw).mono fun e w' ⟨x, he, hn, hp⟩ => ⟨_, he, hK _ _ ((hr x hp).go g w' (hw.call hn))⟩
theorem GoL.ex {X : Type} {e : X → En} (hr : ∀ x, GoL w0 Bs P ops n K os L (e x :: H)) : GoL w0 Bs P ops n K os L (.ex e :: H) := .mk fun g w hw => let ⟨x, hx⟩ := hw.exs; (hr x).go g w hx
theorem GoL.star {E : List En} (hr : GoL w0 Bs P ops n K os L (E ++ H)) : GoL w0 Bs P ops n K os L (.star E :: H) := .mk fun g w hw => hr.go g w hw.flat
theorem GoL.pure {p : Prop} (hr : p → GoL w0 Bs P ops n K os L H) : GoL w0 Bs P ops n K os L (.pure p :: H) := .mk fun g w hw => (hr hw.pures.1).go g w hw.pures.2
theorem Mem.slE {α : Type} {f : α → List Value} {m : Nat} {T : TypeId} {l : List α} {v : Value} {w : World} (h : Mem w0 Bs (.sl f m T l v :: H) w) : ∃ a c, v = .slice a l.length c ∧ Mem w0 Bs (.own f m T (.slice a l.length c) l :: H) w := by
  obtain ⟨⟨a, c⟩, h1⟩ := Mem.exs h
  obtain ⟨h2, h3⟩ := (Mem.flat h1).pures
  exact ⟨a, c, h2, h3⟩
theorem Mem.slI {α : Type} {f : α → List Value} {m : Nat} {T : TypeId} {l : List α} {v : Value} {w : World} {a : Option Addr} {c : Nat} (hv : v = .slice a l.length c) (h : Mem w0 Bs (.own f m T (.slice a l.length c) l :: H) w) : Mem w0 Bs (.sl f m T l v :: H) w := by
  obtain ⟨h0, S, hS, hx, hr⟩ := h
  exact ⟨h0, S, hS, ⟨(a, c), fun _ => False, fun _ h => h.elim, hv, S, fun b hb => ⟨hb, fun h => h⟩, hx, trivial⟩, hr⟩
/-- a list's value in sight -/
theorem GoL.sl {α : Type} {f : α → List Value} {m : Nat} {l : List α} (h : Ef w0 Bs P n ⟨some d, op, ty, pos, af, none⟩ L H (.sl f m T l) H') (hr : ∀ a c, GoL w0 Bs P ops n K os ((d, .slice a l.length c) :: L) (.own f m T (.slice a l.length c) l :: H')) : GoL w0 Bs P ops n K (⟨some d, op, ty, pos, af, none⟩ :: os) L H :=
  GoL.e h fun v => .mk fun g w hw => by obtain ⟨a, c, rfl, hm⟩ := hw.slE; exact (hr a c).go g w hm
theorem Mem.to {w : World} {e e' : En} (h : Mem w0 Bs H w) (p : Rep e e' H H') (hc : ∀ S, e.P S w → e'.P S w) : Mem w0 Bs H' w := by
  obtain ⟨K, p1, p2⟩ := p.split
  obtain ⟨h0, S, hS, hx, hr⟩ := h.perm p1
  exact (show Mem w0 Bs (e' :: K) w from ⟨h0, S, hS, hc S hx, hr⟩).perm p2.symm
/-- a block, read as a list -/
theorem Mem.c2r {α : Type} {f : α → List Value} {m : Nat} {b : Nat} {cs : List Value} {w : World} (h : Mem w0 Bs H w) (l : List α) (p : Rep (.cells b cs) (.rd f m (some ⟨b, 0, none⟩) l) H H') (hf : ∀ x, (f x).length = m) (hl : cs = l.flatMap f) : Mem w0 Bs H' w :=
  h.to p fun S hx => ⟨fun b' _ he => by cases he; exact hx.1, Cells.rd hf (hl ▸ hx.2)⟩
/-- a list of the call's own, read -/
theorem Mem.o2r {α : Type} {f : α → List Value} {m : Nat} {T : TypeId} {a : Option Addr} {n c : Nat} {l : List α} {w : World} (h : Mem w0 Bs H w) (p : Rep (.own f m T (.slice a n c) l) (.rd f m a l) H H') (hf : ∀ x, (f x).length = m) : Mem w0 Bs H' w :=
  h.to p fun S hx => ⟨fun b' _ he => hx.1 _ (by subst he; rfl), hx.2.rd' hf rfl⟩
/- what makes something -/
theorem Ef.c {f : FuncId} {args : Array Value} {X : Type} {val : X → Value} {E : X → List En} (hc : ∀ w, Mem w0 Bs H w → Calls P f args w (Ret val E w)) (h : Cl P n o L f args := by exact Cl.q) : Ef w0 Bs P n o L H (.rt val E) H := fun g w hw => by
  unfold opF; rw [h g w]
  refine (hc w hw).mono fun e w' ⟨x, he, hn⟩ => ⟨_, he, ?_⟩
  obtain ⟨h0, h1⟩ := hw.new hn
  have h2 : Sep w' (En.star (E x) :: H) (fun b => b < w'.heap.size ∧ (w0.heap.size ≤ b ∨ b ∈ Bs)) := by
    have : ∀ (A : List En) (U : Nat → Prop), Sep w' (A ++ H) U → Sep w' (En.star A :: H) U := by
      intro A
      induction A with
      | nil => intro U h; exact ⟨fun _ => False, fun _ h => h.elim, trivial, h.mono fun b hb => ⟨hb, fun h => h⟩⟩
      | cons a A ih =>
        intro U ⟨S, hS, ha, hr⟩
        obtain ⟨S', hS', ha', hr'⟩ := ih _ hr
        exact ⟨fun b => S b ∨ S' b, fun b hb => hb.elim (hS b) (fun h => (hS' b h).1), ⟨S, fun b hb => .inl hb, ha, Sep.mono (H := A) ha' (fun b hb => ⟨.inr hb, (hS' b hb).2⟩)⟩, hr'.mono fun b hb => ⟨hb.1.1, fun h => h.elim hb.1.2 hb.2⟩⟩
    exact this _ _ h1
  refine ⟨h0, ?_⟩
  obtain ⟨S, hS, ha, hr⟩ := h2
  exact ⟨S, hS, ⟨x, fun _ => False, fun _ h => h.elim, rfl, Sep.mono (H := E x) ha (fun b hb => ⟨hb, fun h => h⟩)⟩, hr⟩
theorem Ef.a {l : List Value} {T : TypeId} (h : ∀ g w (R : Result Next → Prop), R (.ok (.value (.pointer (some ⟨w.heap.size, 0, none⟩))) (w.alloc (.cells l.toArray T))) → R ((execOp (evF n (tab L g)) o).run P w) := by intro g w R hR; go_simp; exact hR) :
    Ef w0 Bs P n o L H (fun v => .ptr v l) H := fun g w hw => by
  unfold opF
  refine h g w (uponF P _) ?_
  show Mem _ _ _ _
  obtain ⟨h0, S, hS, hx, hr⟩ := hw.new (New.cells (w := w) (l := l) (T := T))
  exact ⟨h0, S, hS, ⟨w.heap.size, fun _ => False, fun _ h => h.elim, rfl, S, fun b hb => ⟨hb, fun h => h⟩, hx, trivial⟩, hr⟩
theorem Mem.ptrE {v : Value} {l : List Value} {w : World} (h : Mem w0 Bs (.ptr v l :: H) w) : ∃ b, v = .pointer (some ⟨b, 0, none⟩) ∧ Mem w0 Bs (.cells b l :: H) w := by
  obtain ⟨b, h1⟩ := Mem.exs h
  exact ⟨b, (Mem.flat h1).pures⟩
theorem Mem.ptrI {b : Nat} {l : List Value} {w : World} (h : Mem w0 Bs (.cells b l :: H) w) : Mem w0 Bs (.ptr (.pointer (some ⟨b, 0, none⟩)) l :: H) w := by
  obtain ⟨h0, S, hS, hx, hr⟩ := h
  exact ⟨h0, S, hS, ⟨b, fun _ => False, fun _ h => h.elim, rfl, S, fun b hb => ⟨hb, fun h => h⟩, hx, trivial⟩, hr⟩
theorem Mem.rtE {X : Type} {val : X → Value} {E : X → List En} {v : Value} {w : World} (h : Mem w0 Bs (.rt val E v :: H) w) : ∃ x, v = val x ∧ Mem w0 Bs (E x ++ H) w := by
  obtain ⟨x, h1⟩ := Mem.exs h
  obtain ⟨h2, h3⟩ := (Mem.flat h1).pures
  exact ⟨x, h2, h3⟩
theorem Ef.st {p u : Value} {off m : Nat} {l l' vs : List Value} (pk : Pick (.ptr p l) H H') (hx : ∀ g, evF n (tab L g) x = p := by intro g; simp only [evF_tmp, tab_cons, Nat.reduceLT, Nat.reduceEqDiff, ↓reduceIte]; (try rfl))
    (hy : ∀ g, evF n (tab L g) y = u := by intro g; simp only [evF_tmp, evF_const, tab_cons, Nat.reduceLT, Nat.reduceEqDiff, ↓reduceIte]; (try rfl)) (hu : u.cells.toList = vs := by simp only [Value.cells]; rfl)
    (hs : ∀ w (R : Result Nat → Prop), R (.ok m w) → R ((sizeOf T).run P w) := by intro w R hR; go_simp; exact hR) (hm : m = vs.length := by rfl) (hl : setLs l 0 vs = l' := by simp only [setLs, List.set_cons_zero, List.set_cons_succ, Nat.reduceAdd]; rfl)
    (ho : ∀ v ∈ vs, v.oneCell' = true := by simp [Value.oneCell']) (hlen : vs.length ≤ l.length := by simp) : Ef w0 Bs P n ⟨none, .store T x y, ty, pos, af, gd⟩ L H (fun _ => .ptr p l') H' := fun g w hw => by
  obtain ⟨b, rfl, hm1⟩ := (hw.pick pk).ptrE
  obtain ⟨w', h1, h2, h3⟩ := run_storeCells (P := P) (off := 0) vs 0 w l (hm1.cells Pick.here) (by omega) ho
  have hcs : u.cells.size = m := by rw [hm, ← hu]; simp
  have : (execOp (evF n (tab L g)) ⟨none, .store T x y, ty, pos, af, gd⟩).run P w = .ok .skip w' := by
    simp only [execOp, Instr.storeAt, Instr.sureAddr, storeVar, hx g, hy g, Sem.run_bind, Sem.run_pure, Result.andThen_ok, hs w (fun r => r = _) rfl, hcs, ne_eq, not_true_eq_false, if_false, hu]
    rw [h1]; rfl
  unfold opF; rw [this]
  rw [Nat.add_zero, hl] at h3
  exact (hm1.only Rep.here h2 h3).ptrI
theorem Mem.newOwn {α : Type} {f : α → List Value} {m : Nat} {T : TypeId} {l : List α} {v : Value} {w w' : World} (h : Mem w0 Bs H w) (hg : w.grownBy w' none) (hv : ∀ k, v.ownBlock = some k → w.heap.size ≤ k) (ho : Own f m T 0 w' v l) : Mem w0 Bs (.own f m T v l :: H) w' :=
  h.new (E := [.own f m T v l]) ⟨⟨hg.os, hg.tape, hg.output, hg.size, fun k hk => hg.block k hk (by simp)⟩, fun b => v.ownBlock = some b, fun b hb => ⟨hv b hb, (World.ownsRow.lt ho b hb).2⟩, ⟨fun _ h => h, ho⟩, trivial⟩
/-- a literal, as a list of the call's own -/
theorem Ef.lit {α : Type} {f : α → List Value} {m : Nat} {e : TypeId} {cs : Array Value} (l : List α) (hf : ∀ x, (f x).length = m) (hl : cs.toList = l.flatMap f)
    (h : ∀ g w (R : Result Next → Prop), R (.ok (.value (.slice (some ⟨w.heap.size, 0, none⟩) l.length l.length)) (w.alloc (.cells cs e))) → R ((execOp (evF n (tab L g)) o).run P w) := by intro g w R hR; go_simp; exact hR) (hm : l.length ≤ maxLen := by simp [maxLen]) :
    Ef w0 Bs P n o L H (.sl f m e l) H := fun g w hw => by
  unfold opF
  refine h g w (uponF P _) ?_
  show Mem _ _ _ _
  refine Mem.slI rfl (hw.newOwn (World.grownBy_alloc w _ none) (fun k hk => by simp [Value.ownBlock] at hk; omega) (Own.lit (Nat.zero_le _) hm hl hf))
theorem Ef.app {α : Type} {f : α → List Value} {m bytes : Nat} {t e : TypeId} {l l2 : List α} {a : Option Addr} {c : Nat} (het : ElemT P t e m bytes) (hf : ∀ x, (f x).length = m) (hone : ∀ x, ∀ u ∈ f x, u.oneCell' = true) (hbytes : ((l.length + l2.length) + (l.length + l2.length) / 4 + 192) * bytes ≤ 140737488355328)
    (p : Pick (.own f m e v l) H H') (hrd : ∀ w, Mem w0 Bs H w → Rd f m w a l2) (hx : ∀ g, evF n (tab L g) x = v := by intro g; simp only [evF_tmp, tab_cons, Nat.reduceLT, Nat.reduceEqDiff, ↓reduceIte]; (try rfl))
    (hy : ∀ g, evF n (tab L g) y = .slice a l2.length c := by intro g; simp only [evF_tmp, tab_cons, Nat.reduceLT, Nat.reduceEqDiff, ↓reduceIte]; (try rfl)) (hd : d < n := by decide) :
    Ef w0 Bs P n ⟨some d, .call { callee := .builtin .append, args := #[x, y], argTypes := #[t, t] }, ty, pos, af, gd⟩ L H (.sl f m e (l ++ l2)) H' := fun g w hw => by
  obtain ⟨i, z, hi, hz, hs, hb, hzs⟩ := het.he
  obtain ⟨h0, S, hS, hown, hr⟩ := hw.pick p
  have hsmall : l.length + l2.length ≤ maxLen ∧ (l.length + l2.length) * bytes ≤ 140737488355328 := by
    have h1 : (l.length + l2.length) * bytes ≤ ((l.length + l2.length) + (l.length + l2.length) / 4 + 192) * bytes := Nat.mul_le_mul_right _ (by omega)
    refine ⟨?_, Nat.le_trans h1 hbytes⟩
    have : (l.length + l2.length) ≤ (l.length + l2.length) * bytes := Nat.le_mul_of_pos_right _ het.hb
    simp only [maxLen]; omega
  refine opF_app (f := f) (m := m) rfl hd x y t rfl e i z bytes het.ht hi hz hs hb hzs het.hm hf hone 0 v l l2 a c (hx g) (hy g) hown.2 (hrd w hw) hsmall.1 hsmall.2 (Nat.zero_le _) ?_
  intro v' w' hown' hg hv
  obtain ⟨a', c', hv', _⟩ := Own.slice hf hown'
  subst hv'
  have key : Mem w0 Bs (.own f m e (.slice a' (l ++ l2).length c') (l ++ l2) :: H') w' := by
    refine (show Mem w0 Bs (.own f m e v l :: H') w from ⟨h0, S, hS, hown, hr⟩).rep Rep.here fun S' hx' hlt => ⟨hg.os, hg.tape, hg.output, hg.size, fun k hk hn => hg.block k hk (fun e => hn (hx'.1 k e.symm)), ⟨fun k hk => ?_, hown'⟩⟩
    have hk2 := (World.ownsRow.lt hown' k hk).2
    rcases hv with h | h
    · exact ⟨.inl (hx'.1 k (h ▸ hk)), hk2⟩
    · rw [hk] at h; cases h; exact ⟨.inr (Nat.le_refl _), hk2⟩
  exact Mem.slI (a := a') (c := c') rfl key
end
end

section
set_option linter.all false
open Go.RowKit

/-- what the checks see of a step -/
abbrev DS := Bool × List Nat × List Nat × List Nat
def DK.sh (k : DK) : DS := (k.isE, k.dp, k.us, k.tk)
def unSh : DS → DK
  | (true, dp, us, tk) => .e (fun _ _ => .pure True) dp us tk
  | (false, _, us, _) => .q undef us
theorem sh_us (k : DK) : (unSh k.sh).us = k.us := by cases k <;> rfl
theorem sh_tk (k : DK) : (unSh k.sh).tk = k.tk := by cases k <;> rfl
theorem sh_dp (k : DK) : (unSh k.sh).dp = k.dp := by cases k <;> rfl
theorem sh_isE (k : DK) : (unSh k.sh).isE = k.isE := by cases k <;> rfl
theorem chkDD_sh (l : List Oper) (ks : List DK) (nb : Nat) (fin : List Nat) : chkDD l (ks.map fun k => unSh k.sh) nb fin = chkDD l ks nb fin := by
  have h1 : ∀ i, isEat (ks.map fun k => unSh k.sh) i = isEat ks i := by intro i; simp only [isEat, List.getElem?_map]; cases ks[i]? <;> simp [sh_isE]
  have h2 : ∀ i, tkAt (ks.map fun k => unSh k.sh) i = tkAt ks i := by intro i; simp only [tkAt, List.getElem?_map]; cases ks[i]? <;> simp [sh_tk]
  unfold chkDD chkFD chkUD
  simp only [List.length_map, h1, h2, List.getElem?_map]
  congr 3
  apply congrArg
  funext i
  cases ks[i]? with
  | none => rfl
  | some k => simp [sh_us, sh_tk, sh_dp]
section
variable (w0 : World) (Bs : List Nat) (P : Program) (l : List Oper) (n : Nat) (K : (Nat → Value) → World → Prop) (I H : List En)
structure GoD (i : Nat) (sa : List DS) (acc : List DK) (os : List Oper) (L : (Nat → Value) → List (Nat × Value)) : Prop where
  go : acc.map DK.sh = sa ∧ ∃ ks fin, acc.length = i ∧ chkDD l (acc ++ ks) I.length fin = true ∧ ∀ g, walkD P w0 Bs l.toArray n H K fin (resX (acc ++ ks) I l.length) i os ks (fun X => tab (L X) g)
end
section
variable {w0 : World} {Bs : List Nat} {P : Program} {l : List Oper} {n : Nat} {K : (Nat → Value) → World → Prop} {I H : List En} {i : Nat} {sa : List DS} {acc : List DK} {os : List Oper} {L : (Nat → Value) → List (Nat × Value)} {v : Value} {d : Nat} {op : Op} {ty : TypeId} {pos : String} {af : Array Edge}
theorem resX_pre {acc ks : List DK} {len : Nat} {X : Nat → Value} {r : Nat} (h : r < acc.length ∨ len ≤ r) : resX (acc ++ ks) I len X r = resX acc I len X r := by
  unfold resX
  by_cases hl : len ≤ r
  · rw [if_pos hl, if_pos hl]
  · rw [if_neg hl, if_neg hl]
    rcases h with h | h
    · rw [List.getElem?_append_left h]
    · exact absurd h hl
theorem resX_map {acc ks : List DK} {len : Nat} {X : Nat → Value} {us : List Nat} (h : us.all (fun r => decide (r < acc.length) || decide (len ≤ r)) = true) : us.map (resX (acc ++ ks) I len X) = us.map (resX acc I len X) := by
  apply List.map_congr_left
  intro r hr
  have := List.all_eq_true.1 h r hr
  simp only [Bool.or_eq_true, decide_eq_true_eq] at this
  exact resX_pre this
theorem D.next {k : DK} {o : Oper} {L' : (Nat → Value) → List (Nat × Value)} (hs : ∀ ks X g, acc.length = i → stepD P w0 Bs l.toArray n H i o k (tab (L X) g) X (resX (acc ++ ks) I l.length X)) (hL : ∀ X g, updS (tab (L X) g) o.dst (k.val X i) = tab (L' X) g)
    (h : GoD w0 Bs P l n K I H (i + 1) (sa ++ [k.sh]) (acc ++ [k]) os L') : GoD w0 Bs P l n K I H i sa acc (o :: os) L := by
  obtain ⟨hsa, ks, fin, hi, hc, hw⟩ := h.go
  have hsa' : acc.map DK.sh = sa := by rw [List.map_append] at hsa; exact List.append_cancel_right hsa
  have hi' : acc.length = i := by simpa using hi
  have e : acc ++ [k] ++ ks = acc ++ k :: ks := by simp
  rw [e] at hc hw
  refine ⟨hsa', k :: ks, fin, hi', hc, fun g => ⟨fun X => hs _ X g hi', ?_⟩⟩
  have := hw g
  have e2 : (fun X => updS (tab (L X) g) o.dst (k.val X i)) = fun X => tab (L' X) g := funext fun X => hL X g
  rw [e2]; exact this
theorem D.q (k : ∃ v, (∀ X F, Ex w0 Bs P n ⟨some d, op, ty, pos, af, none⟩ (L X) (H ++ F) v) ∧ GoD w0 Bs P l n K I H (i + 1) (sa ++ [(false, [], [], [])]) (acc ++ [.q v []]) os (fun X => (d, v) :: L X)) : GoD w0 Bs P l n K I H i sa acc (⟨some d, op, ty, pos, af, none⟩ :: os) L := by
  obtain ⟨v, h, hr⟩ := k
  exact D.next (k := .q v []) (fun ks X g _ => ⟨by simp [Region.wanted], fun F w hw => by rw [h X F g w hw]; exact ⟨rfl, rfl⟩⟩) (fun X g => rfl) hr
theorem D.qu (us : List Nat) (k : ∃ v, (∀ X F, Ex w0 Bs P n ⟨some d, op, ty, pos, af, none⟩ (L X) (us.map (resX acc I l.length X) ++ (H ++ F)) v) ∧ GoD w0 Bs P l n K I H (i + 1) (sa ++ [(false, [], us, [])]) (acc ++ [.q v us]) os (fun X => (d, v) :: L X)) (hu : us.all (fun r => decide (r < acc.length) || decide (l.length ≤ r)) = true := by rfl) : GoD w0 Bs P l n K I H i sa acc (⟨some d, op, ty, pos, af, none⟩ :: os) L := by
  obtain ⟨v, h, hr⟩ := k
  exact D.next (k := .q v us) (fun ks X g _ => ⟨by simp [Region.wanted], fun F w hw => by rw [resX_map hu] at hw; rw [h X F g w hw]; exact ⟨rfl, rfl⟩⟩) (fun X g => rfl) hr
theorem D.cv {f : FuncId} {args : Array Value} (hc : ∀ F w, Mem w0 Bs (H ++ F) w → Calls P f args w (fun e w' => e = .returned v ∧ Below w.heap.size w w')) (hr : GoD w0 Bs P l n K I H (i + 1) (sa ++ [(false, [], [], [])]) (acc ++ [.q v []]) os (fun X => (d, v) :: L X)) (h : ∀ X, Cl P n ⟨some d, op, ty, pos, af, none⟩ (L X) f args := by exact fun X => Cl.q) :
    GoD w0 Bs P l n K I H i sa acc (⟨some d, op, ty, pos, af, none⟩ :: os) L :=
  D.next (k := .q v []) (fun ks X g _ => ⟨by simp [Region.wanted], fun F w hw => by rw [h X g w]; exact ⟨rfl, hc F w hw⟩⟩) (fun X g => rfl) hr
/-- a call that looks at what was made in the region -/
theorem D.cu {f : FuncId} {args : (Nat → Value) → Array Value} (us : List Nat) (hc : ∀ X F w, Mem w0 Bs (us.map (resX acc I l.length X) ++ (H ++ F)) w → Calls P f (args X) w (fun e w' => e = .returned v ∧ Below w.heap.size w w')) (hr : GoD w0 Bs P l n K I H (i + 1) (sa ++ [(false, [], us, [])]) (acc ++ [.q v us]) os (fun X => (d, v) :: L X))
    (h : ∀ X, Cl P n ⟨some d, op, ty, pos, af, none⟩ (L X) f (args X) := by exact fun X => Cl.q) (hu : us.all (fun r => decide (r < acc.length) || decide (l.length ≤ r)) = true := by rfl) : GoD w0 Bs P l n K I H i sa acc (⟨some d, op, ty, pos, af, none⟩ :: os) L :=
  D.next (k := .q v us) (fun ks X g _ => ⟨by simp [Region.wanted], fun F w hw => by rw [resX_map hu] at hw; rw [h X g w]; exact ⟨rfl, hc X F w hw⟩⟩) (fun X g => rfl) hr
theorem D.cs {f : FuncId} {args : Array Value} (hc : ∀ F w, Mem w0 Bs (H ++ F) w → Calls P f args w (fun e w' => e = .returned v ∧ w = w')) (hr : GoD w0 Bs P l n K I H (i + 1) (sa ++ [(false, [], [], [])]) (acc ++ [.q v []]) os (fun X => (d, v) :: L X)) (h : ∀ X, Cl P n ⟨some d, op, ty, pos, af, none⟩ (L X) f args := by exact fun X => Cl.q) :
    GoD w0 Bs P l n K I H i sa acc (⟨some d, op, ty, pos, af, none⟩ :: os) L :=
  D.cv (fun F w hw => (hc F w hw).mono fun e w' ⟨he, hn⟩ => ⟨he, hn ▸ Below.refl _ _⟩) hr h
theorem D.e {A : List Value → Value → En} (dp us tk : List Nat) (h : ∀ X F, Ef w0 Bs P n ⟨some d, op, ty, pos, af, none⟩ (L X) (us.map (resX acc I l.length X) ++ (tk.map (resX acc I l.length X) ++ (H ++ F))) (A (dp.map X)) (us.map (resX acc I l.length X) ++ (H ++ F)))
    (hr : GoD w0 Bs P l n K I H (i + 1) (sa ++ [(true, dp, us, tk)]) (acc ++ [.e A dp us tk]) os (fun X => (d, X i) :: L X)) (hu : (us ++ tk).all (fun r => decide (r < acc.length) || decide (l.length ≤ r)) = true := by rfl) : GoD w0 Bs P l n K I H i sa acc (⟨some d, op, ty, pos, af, none⟩ :: os) L := by
  rw [List.all_append, Bool.and_eq_true] at hu
  exact D.next (k := .e A dp us tk) (fun ks X g _ => ⟨by simp [Region.wanted], fun F w hw => by rw [resX_map hu.1, resX_map hu.2] at hw; rw [resX_map hu.1]; exact h X F g w hw⟩) (fun X g => rfl) hr
theorem D.e0 {A : Value → En} (us tk : List Nat) (h : ∀ X F, Ef w0 Bs P n ⟨some d, op, ty, pos, af, none⟩ (L X) (us.map (resX acc I l.length X) ++ (tk.map (resX acc I l.length X) ++ (H ++ F))) A (us.map (resX acc I l.length X) ++ (H ++ F)))
    (hr : GoD w0 Bs P l n K I H (i + 1) (sa ++ [(true, [], us, tk)]) (acc ++ [.e (fun _ => A) [] us tk]) os (fun X => (d, X i) :: L X)) (hu : (us ++ tk).all (fun r => decide (r < acc.length) || decide (l.length ≤ r)) = true := by rfl) : GoD w0 Bs P l n K I H i sa acc (⟨some d, op, ty, pos, af, none⟩ :: os) L :=
  D.e [] us tk h hr hu
/-- a new block -/
theorem D.al {c : List Value} {T : TypeId} (hr : GoD w0 Bs P l n K I H (i + 1) (sa ++ [(true, [], [], [])]) (acc ++ [.e (fun _ v => .ptr v c) [] [] []]) os (fun X => (d, X i) :: L X))
    (h : ∀ X g w (R : Result Next → Prop), R (.ok (.value (.pointer (some ⟨w.heap.size, 0, none⟩))) (w.alloc (.cells c.toArray T))) → R ((execOp (evF n (tab (L X) g)) ⟨some d, op, ty, pos, af, none⟩).run P w) := by intro X g w R hR; go_simp; exact hR) : GoD w0 Bs P l n K I H i sa acc (⟨some d, op, ty, pos, af, none⟩ :: os) L :=
  D.e0 [] [] (fun X F => Ef.a (h X)) hr rfl
/-- what a call answers -/
theorem D.c {f : FuncId} {args : Array Value} {X : Type} {val : X → Value} {E : X → List En} (hc : ∀ F w, Mem w0 Bs (H ++ F) w → Calls P f args w (Ret val E w)) (hr : GoD w0 Bs P l n K I H (i + 1) (sa ++ [(true, [], [], [])]) (acc ++ [.e (fun _ => .rt val E) [] [] []]) os (fun X => (d, X i) :: L X))
    (h : ∀ X, Cl P n ⟨some d, op, ty, pos, af, none⟩ (L X) f args := by exact fun X => Cl.q) : GoD w0 Bs P l n K I H i sa acc (⟨some d, op, ty, pos, af, none⟩ :: os) L :=
  D.e0 [] [] (fun X F => Ef.c (hc F) (h X)) hr rfl
/-- a store: one more effect -/
theorem D.s {A : List Value → Value → En} {x y : Operand} {T : TypeId} (dp us tk : List Nat) (h : ∀ X F, Ef w0 Bs P n ⟨none, .store T x y, ty, pos, af, none⟩ (L X) (us.map (resX acc I l.length X) ++ (tk.map (resX acc I l.length X) ++ (H ++ F))) (A (dp.map X)) (us.map (resX acc I l.length X) ++ (H ++ F)))
    (hr : GoD w0 Bs P l n K I H (i + 1) (sa ++ [(true, dp, us, tk)]) (acc ++ [.e A dp us tk]) os L) (hu : (us ++ tk).all (fun r => decide (r < acc.length) || decide (l.length ≤ r)) = true := by rfl) : GoD w0 Bs P l n K I H i sa acc (⟨none, .store T x y, ty, pos, af, none⟩ :: os) L := by
  rw [List.all_append, Bool.and_eq_true] at hu
  exact D.next (k := .e A dp us tk) (fun ks X g _ => ⟨by simp [Region.wanted], fun F w hw => by rw [resX_map hu.1, resX_map hu.2] at hw; rw [resX_map hu.1]; exact h X F g w hw⟩) (fun X g => rfl) hr
theorem wanted_nu {ops : Array Oper} {o : Oper} {s : Nat → Value} {j t : Nat} {b : Bool} (hg : o.guard = some (j, b)) (hd : (ops[j]?).bind (·.dst) = some t) (hn : t < n) (hs : s t = undef) : Region.wanted o (yielded ops (tmA n s)) = false := by
  unfold Region.wanted
  rw [hg]
  simp only [yielded, hd, Option.bind_some, mkA_get, hn, if_true, hs]
  rfl
theorem D.g {j : Nat} {b : Bool} (k : ∃ t v, (l.toArray[j]?).bind (·.dst) = some t ∧ t < n ∧ (∀ X, At (L X) t v) ∧ Gd (GoD w0 Bs P l n K I H i sa acc (⟨some d, op, ty, pos, af, none⟩ :: os) L) (GoD w0 Bs P l n K I H (i + 1) (sa ++ [(false, [], [], [])]) (acc ++ [.no]) os (fun X => (d, undef) :: L X)) b v) :
    GoD w0 Bs P l n K I H i sa acc (⟨some d, op, ty, pos, af, some (j, b)⟩ :: os) L := by
  obtain ⟨t, v, hd, hn, hs, hg⟩ := k
  cases hg with
  | yes h =>
    obtain ⟨hsa, ks, fin, hi, hc, hw⟩ := h.go
    refine ⟨hsa, ks, fin, hi, hc, fun g => ?_⟩
    have := hw g
    cases ks with
    | nil =>
      intro X w hm
      have h1 := this X w hm
      unfold listF at h1 ⊢
      rw [if_pos (by rw [wanted_F (b' := b) rfl hd hn (hs X g)]; simp)]
      rw [if_pos (by simp [Region.wanted])] at h1
      exact h1
    | cons k ks =>
      obtain ⟨h1, h2⟩ := this
      refine ⟨fun X => ?_, h2⟩
      have h3 := h1 X
      have hwt : Region.wanted ⟨some d, op, ty, pos, af, some (j, b)⟩ (yielded l.toArray (tmA n (tab (L X) g))) = true := by rw [wanted_F (b' := b) rfl hd hn (hs X g)]; simp
      cases k with
      | no => simp [stepD, Region.wanted] at h3
      | q v us => exact ⟨hwt, h3.2⟩
      | e A dp us tk => exact ⟨hwt, h3.2⟩
  | no h hb => exact D.next (k := .no) (fun ks X g _ => by show Region.wanted _ _ = false; rw [wanted_F rfl hd hn (hs X g), hb]) (fun X g => rfl) h
  | un h => exact D.next (k := .no) (fun ks X g _ => wanted_nu rfl hd hn (hs X g)) (fun X g => rfl) h
theorem D.sp {o : Oper} {j t : Nat} {b e : Bool} {p q : Prop} (ht : p → GoD w0 Bs P l n K I H i sa acc (o :: os) (fun X => (t, .bool true) :: L X)) (hf : q → GoD w0 Bs P l n K I H i sa acc (o :: os) (fun X => (t, .bool false) :: L X)) (hg : o.guard = some (j, b) := by rfl) (hd : (l.toArray[j]?).bind (·.dst) = some t := by rfl)
    (hs : ∀ X, At (L X) t (.bool e) := by intro X g; simp only [tab_cons, Nat.reduceEqDiff, ↓reduceIte]; rfl)
    (hp : (e = true) = p := by first | (simp only [decide_eq_true_eq, Bool.and_eq_true, Bool.or_eq_true, Bool.not_eq_true', decide_eq_false_iff_not, beq_iff_eq, bne_iff_ne, ne_eq]; rfl) | rfl) (hq : (e = false) = q := by first | (simp only [decide_eq_false_iff_not, Bool.and_eq_false_iff, Bool.or_eq_false_iff, Bool.not_eq_false', decide_eq_true_eq, beq_eq_false_iff_ne, bne_eq_false_iff_eq, ne_eq, Int.not_lt, Int.not_le]; rfl) | rfl) : GoD w0 Bs P l n K I H i sa acc (o :: os) L := by
  cases e with
  | true =>
    obtain ⟨hsa, ks, fin, hi, hc, hw⟩ := (ht (hp ▸ rfl)).go
    refine ⟨hsa, ks, fin, hi, hc, fun g => ?_⟩
    have := hw g
    have e : (fun X => tab ((t, Value.bool true) :: L X) g) = fun X => tab (L X) g := funext fun X => tab_same (hs X g)
    rw [e] at this; exact this
  | false =>
    obtain ⟨hsa, ks, fin, hi, hc, hw⟩ := (hf (hq ▸ rfl)).go
    refine ⟨hsa, ks, fin, hi, hc, fun g => ?_⟩
    have := hw g
    have e : (fun X => tab ((t, Value.bool false) :: L X) g) = fun X => tab (L X) g := funext fun X => tab_same (hs X g)
    rw [e] at this; exact this
/-- the rest waits for all of these -/
theorem D.nil (fin : List (Nat × ((Nat → Value) → En))) {E : (Nat → Value) → List En} (k : ∀ X, GoL w0 Bs P l.toArray n K os (L X) (E X)) (hs : acc.length = i ∧ acc.map DK.sh = sa := by exact ⟨by kernel_rfl, by kernel_rfl⟩) (hchk : chkDD l (sa.map unSh) I.length (fin.map Prod.fst) = true := by decide +kernel)
    (hA : ∀ X, (fin.map Prod.fst).map (resX acc I l.length X) = fin.map (fun p => p.2 X) := by intro X; rfl) (hE : ∀ X, fin.map (fun p => p.2 X) ++ H = E X := by intro X; simp only [List.map_cons, List.map_nil, List.cons_append, List.nil_append]; rfl) : GoD w0 Bs P l n K I H i sa acc os L := by
  have hchk' : chkDD l acc I.length (fin.map Prod.fst) = true := by
    rw [← chkDD_sh, ← hchk, ← hs.2, List.map_map]; rfl
  refine ⟨hs.2, [], fin.map Prod.fst, hs.1, by rw [List.append_nil]; exact hchk', fun g => ?_⟩
  rw [List.append_nil]
  have key : ∀ X w, Mem w0 Bs ((fin.map Prod.fst).map (resX acc I l.length X) ++ H) w → listF P l.toArray n K os (tab (L X) g) w := fun X w hm => by
    rw [hA X, hE X] at hm; exact (k X).go g w hm
  cases os with
  | nil => exact key
  | cons o os => exact key
theorem D.nil0 (k : ∃ L', (∀ X, L X = L') ∧ (acc.length = i ∧ acc.map DK.sh = sa) ∧ chkDD l (sa.map unSh) I.length [] = true ∧ GoL w0 Bs P l.toArray n K os L' H) : GoD w0 Bs P l n K I H i sa acc os L := by
  obtain ⟨L', h1, h2, h3, h4⟩ := k
  exact D.nil [] (fun X => by rw [h1 X]; exact h4) h2 h3 (fun _ => rfl) (fun _ => rfl)
/-- .. one new block -/
theorem D.nilp (r : Nat) {c : List Value} {L' : Nat → List (Nat × Value)} (k : ∀ b, GoL w0 Bs P l.toArray n K os (L' b) (.cells b c :: H)) (hs : acc.length = i ∧ acc.map DK.sh = sa := by exact ⟨by kernel_rfl, by kernel_rfl⟩) (hchk : chkDD l (sa.map unSh) I.length [r] = true := by decide +kernel)
    (hA : ∀ X, ∃ q, resX acc I l.length X r = .ptr (X q) c ∧ L X = L (fun _ => X q) := by exact fun X => ⟨_, rfl, rfl⟩) (hL : ∀ b, L (fun _ => .pointer (some ⟨b, 0, none⟩)) = L' b := by intro b; (try simp only []); rfl) : GoD w0 Bs P l n K I H i sa acc os L :=
  D.nil [(r, fun X => resX acc I l.length X r)] (E := fun X => resX acc I l.length X r :: H) (fun X => .mk fun g w hw => by
    obtain ⟨q, h1, h2⟩ := hA X
    rw [h1] at hw
    obtain ⟨b, h3, h4⟩ := hw.ptrE
    rw [h2, h3, hL]
    exact (k b).go g w h4) hs hchk (fun _ => rfl) (fun _ => rfl)
/-- .. what one call answers -/
theorem D.nilc (r : Nat) {X : Type} {val : X → Value} {E : X → List En} {L' : X → List (Nat × Value)} (k : ∀ x, GoL w0 Bs P l.toArray n K os (L' x) (E x ++ H)) (hs : acc.length = i ∧ acc.map DK.sh = sa := by exact ⟨by kernel_rfl, by kernel_rfl⟩) (hchk : chkDD l (sa.map unSh) I.length [r] = true := by decide +kernel)
    (hA : ∀ X, resX acc I l.length X r = .rt val E (X r) ∧ L X = L (fun _ => X r) := by exact fun X => ⟨rfl, rfl⟩) (hL : ∀ x, L (fun _ => val x) = L' x := by intro x; (try simp only []); rfl) : GoD w0 Bs P l n K I H i sa acc os L :=
  D.nil [(r, fun X => resX acc I l.length X r)] (E := fun X => resX acc I l.length X r :: H) (fun Y => .mk fun g w hw => by
    obtain ⟨h1, h2⟩ := hA Y
    rw [h1] at hw
    obtain ⟨x, h3, h4⟩ := hw.rtE
    rw [h2, h3, hL]
    exact (k x).go g w h4) hs hchk (fun _ => rfl) (fun _ => rfl)
/-- .. one list -/
theorem D.nils (r : Nat) {α : Type} {f : α → List Value} {m : Nat} {T : TypeId} {xs : List α} {L' : Option Addr → Nat → List (Nat × Value)} (k : ∀ a c, GoL w0 Bs P l.toArray n K os (L' a c) (.own f m T (.slice a xs.length c) xs :: H)) (hs : acc.length = i ∧ acc.map DK.sh = sa := by exact ⟨by kernel_rfl, by kernel_rfl⟩) (hchk : chkDD l (sa.map unSh) I.length [r] = true := by decide +kernel)
    (hA : ∀ X, resX acc I l.length X r = .sl f m T xs (X r) ∧ L X = L (fun _ => X r) := by exact fun X => ⟨rfl, rfl⟩) (hL : ∀ a c, L (fun _ => .slice a xs.length c) = L' a c := by intro a c; (try simp only []); rfl) : GoD w0 Bs P l n K I H i sa acc os L :=
  D.nil [(r, fun X => resX acc I l.length X r)] (E := fun X => resX acc I l.length X r :: H) (fun Y => .mk fun g w hw => by
    obtain ⟨h1, h2⟩ := hA Y
    rw [h1] at hw
    obtain ⟨a, c, h3, h4⟩ := hw.slE
    rw [h2, h3, hL]
    exact (k a c).go g w h4) hs hchk (fun _ => rfl) (fun _ => rfl)
theorem go_drw {id : Nat} {ds : List Deferred} {Q : Exit → Act → World → Prop} {L : List (Nat × Value)} (I H : List En) (h : GoD w0 Bs P l n (fun s w => Q .normal (mkA n s ds) w) I H 0 [] [] l (fun _ => L)) (hm : P.follows .mixedOrders = true := by kernel_rfl) (hb : backB l.toArray = true := by kernel_rfl) (hdn : dstB l.toArray (List.range n) = true := by kernel_rfl) :
    GoC w0 Bs P (.region id l.toArray true) n ds L (I ++ H) Q := .mk fun g w hw => by
  obtain ⟨_, ks, fin, _, hc, hwk⟩ := h.go
  exact regionD fin ks I H hm hb hdn hc hw (hwk g)
theorem go_dr0 {id : Nat} {ds : List Deferred} {Q : Exit → Act → World → Prop} {L : List (Nat × Value)} (k : (P.follows .mixedOrders = true ∧ backB l.toArray = true ∧ dstB l.toArray (List.range n) = true) ∧ GoD w0 Bs P l n (fun s w => Q .normal (mkA n s ds) w) [] H 0 [] [] l (fun _ => L)) : GoC w0 Bs P (.region id l.toArray true) n ds L H Q :=
  go_drw [] H k.2 k.1.1 k.1.2.1 k.1.2.2
end

section
variable {w0 : World} {Bs : List Nat} {P : Program} {n : Nat} {L : List (Nat × Value)} {H : List En} {v : Value} {d : Nat} {T ty : TypeId} {pos : String} {af : Array Edge} {gd : Option (Nat × Bool)} {x y : Operand} {a b c : Option Operand} {k : Nat}
theorem K.load (h : Ex w0 Bs P n ⟨some d, .load T x, ty, pos, af, gd⟩ L H v) : Ex w0 Bs P n ⟨some d, .load T x, ty, pos, af, gd⟩ L H v := h
theorem K.ixa (h : Ex w0 Bs P n ⟨some d, .indexAddr T x y, ty, pos, af, gd⟩ L H v) : Ex w0 Bs P n ⟨some d, .indexAddr T x y, ty, pos, af, gd⟩ L H v := h
theorem K.sli (h : Ex w0 Bs P n ⟨some d, .slice T x a b c, ty, pos, af, gd⟩ L H v) : Ex w0 Bs P n ⟨some d, .slice T x a b c, ty, pos, af, gd⟩ L H v := h
theorem K.fa (h : Ex w0 Bs P n ⟨some d, .fieldAddr T x k, ty, pos, af, gd⟩ L H v) : Ex w0 Bs P n ⟨some d, .fieldAddr T x k, ty, pos, af, gd⟩ L H v := h
/-- the value of an operation that leaves the world as it is -/
theorem exs {o : Oper} (h : Ex w0 Bs P n o L H v := by
    first
    | ((with_reducible apply K.load); first | exact Ex.ld | exact Ex.rl)
    | ((with_reducible apply K.ixa); first | exact Ex.ix | exact Ex.q)
    | ((with_reducible apply K.sli); first | exact Ex.sl | exact Ex.sh)
    | ((with_reducible apply K.fa); first | exact Ex.fr0 | exact Ex.fr | exact Ex.q)
    | exact Ex.q) : Ex w0 Bs P n o L H v := h
end
section
variable {w0 : World} {Bs : List Nat} {P : Program} {ops : Array Oper} {n : Nat} {K : (Nat → Value) → World → Prop} {os os1 os2 : List Oper} {L L2 C : List (Nat × Value)} {H H2 : List En}
theorem listF_app {l2 : List Oper} : ∀ (l1 : List Oper) (s : Nat → Value) (w : World), listF P ops n (fun s w => listF P ops n K l2 s w) l1 s w → listF P ops n K (l1 ++ l2) s w
  | [], _, _, h => h
  | o :: l1, s, w, h => by
    unfold listF at h
    show listF P ops n K (o :: (l1 ++ l2)) s w
    unfold listF
    split at h
    · rename_i hw; rw [if_pos hw]; exact uponF.mono (fun v w' h => listF_app l1 _ _ h) h
    · rename_i hw; rw [if_neg hw]; exact listF_app l1 _ _ h
/-- the ways through the first k operations lead to one state -/
theorem GoL.jn (k : Nat) (V : List (Nat × Value)) (ks : List Nat) (H' : List En) (h1 : GoL w0 Bs P ops n (fun s w => ∃ g, s = tab (V ++ C) g ∧ Mem w0 Bs H' w) os1 L H) (h2 : GoL w0 Bs P ops n K os2 (V ++ C) H')
    (hC : keepL (tab L fun _ => undef) ks = C := by simp only [keepL_cons, keepL_nil, tab_cons, tab_nil, Nat.reduceEqDiff, ↓reduceIte]; rfl) (e1 : os.take k = os1 := by simp only [List.take_succ_cons, List.take_zero]; rfl) (e2 : os.drop k = os2 := by simp only [List.drop_succ_cons, List.drop_zero]; rfl) : GoL w0 Bs P ops n K os L H := .mk fun g w hw => by
  rw [← List.take_append_drop k os, e1, e2]
  refine listF_app os1 _ _ ?_
  have h := h1.go g w hw
  have mono : ∀ (l : List Oper) (s : Nat → Value) (w : World), listF P ops n (fun s w => ∃ g, s = tab (V ++ C) g ∧ Mem w0 Bs H' w) l s w → listF P ops n (fun s w => listF P ops n K os2 s w) l s w := by
    intro l
    induction l with
    | nil => rintro s w ⟨g, rfl, hm⟩; exact h2.go g w hm
    | cons o l ih =>
      intro s w h
      unfold listF at h ⊢
      split at h
      · rename_i hw; rw [if_pos hw]; exact uponF.mono (fun v w' h => ih _ _ h) h
      · rename_i hw; rw [if_neg hw]; exact ih _ _ h
  exact mono _ _ _ h
/-- .. with memory as it was -/
theorem GoL.jk (k : Nat) (V : List (Nat × Value)) (ks : List Nat) (h1 : GoL w0 Bs P ops n (fun s w => ∃ g, s = tab (V ++ C) g ∧ Mem w0 Bs H w) os1 L H) (h2 : GoL w0 Bs P ops n K os2 (V ++ C) H)
    (hC : keepL (tab L fun _ => undef) ks = C := by simp only [keepL_cons, keepL_nil, tab_cons, tab_nil, Nat.reduceEqDiff, ↓reduceIte]; rfl) (e1 : os.take k = os1 := by simp only [List.take_succ_cons, List.take_zero]; rfl) (e2 : os.drop k = os2 := by simp only [List.drop_succ_cons, List.drop_zero]; rfl) : GoL w0 Bs P ops n K os L H :=
  GoL.jn k V ks H h1 h2 hC e1 e2
theorem GoL.jd {V : List (Nat × Value)} {H' : List En} (hA : AgreeL L2 (V ++ C)) (hE : Sub H' H2) : GoL w0 Bs P ops n (fun s w => ∃ g, s = tab (V ++ C) g ∧ Mem w0 Bs H' w) [] L2 H2 := .mk fun g w hw => ⟨tab L2 g, hA.tab.symm, hw.sub hE⟩
theorem gl_nrm {A : List (Nat × Value)} (k : ∃ L', A ++ C = L' ∧ GoL w0 Bs P ops n K os L' H) : GoL w0 Bs P ops n K os (A ++ C) H := by obtain ⟨_, rfl, h⟩ := k; exact h
end
section
/-- as far as the steps go by themselves, one step at least -/
theorem gp {A B : Prop} (k : B) (e : Kp B → A := by
  intro h
  repeat1' (first
    | ((with_reducible refine gl_nrm ?_); refine ⟨_, by simp only [List.cons_append, List.nil_append]; rfl, ?_⟩)
    | ((with_reducible refine go_nrm ?_); refine ⟨_, by simp only [List.cons_append, List.nil_append]; rfl, ?_⟩)
    | with_reducible refine go_seq ?_
    | with_reducible refine go_reg ?_
    | with_reducible refine go_nil ?_
    | with_reducible refine xt_n ?_
    | ((with_reducible refine GoL.q ?_); refine ⟨_, exs, ?_⟩)
    | ((with_reducible refine GoL.g ?_); refine ⟨_, _, rfl, by decide, by intro g; simp only [tab_cons, Nat.reduceEqDiff, ↓reduceIte]; rfl, ?_⟩; first | with_reducible refine Gd.yes ?_ | refine Gd.no ?_ rfl | with_reducible refine Gd.un ?_)
    | ((with_reducible refine GoL.st ?_)
       refine ⟨_, _, _, _, _, _, _, _, by intro g; simp only [evF_tmp, tab_cons, Nat.reduceLT, Nat.reduceEqDiff, ↓reduceIte]; rfl, by intro g; simp only [evF_tmp, evF_const, tab_cons, Nat.reduceLT, Nat.reduceEqDiff, ↓reduceIte]; rfl, by simp only [Value.cells]; rfl, by intro w R hR; go_simp; exact hR, by rfl,
         rp, by simp only [setLs, List.set_cons_zero, List.set_cons_succ, Nat.reduceAdd]; rfl, ?_, ?_, ?_⟩; (focus (simp [Value.oneCell']; done)); (focus (simp; done)))
    | ((with_reducible refine go_dr0 ?_); refine ⟨⟨by kernel_rfl, by kernel_rfl, by kernel_rfl⟩, ?_⟩)
    | ((with_reducible refine D.q ?_); refine ⟨_, (fun X F => exs), ?_⟩)
    | ((with_reducible refine D.g ?_); refine ⟨_, _, rfl, by decide, by intro X g; simp only [tab_cons, Nat.reduceEqDiff, ↓reduceIte]; rfl, ?_⟩; first | with_reducible refine Gd.yes ?_ | refine Gd.no ?_ rfl | with_reducible refine Gd.un ?_)
    | ((with_reducible refine D.nil0 ?_); refine ⟨_, by intro X; rfl, ⟨by kernel_rfl, by kernel_rfl⟩, by decide +kernel, ?_⟩)
    | with_reducible refine go_blk ?_
    | with_reducible refine go_skip ?_
    | with_reducible refine go_ret ?_
    | with_reducible refine go_exit ?_
    | with_reducible refine xt_e ?_
    | with_reducible refine xt_r ?_
    | with_reducible refine xb_n ?_
    | with_reducible refine xb_r ?_
    | with_reducible refine xb_e ?_
    | with_reducible refine xb_o ?_ (by decide)
    | ((with_reducible refine go_tf ?_); refine ⟨_, by intro g; simp only [tab_cons, Nat.reduceEqDiff, ↓reduceIte]; rfl, by decide, ?_⟩; first | refine Or.inl ⟨rfl, ?_⟩ | refine Or.inr ⟨rfl, ?_⟩))
  exact h.out) : A := e ⟨k⟩
/-- as far as the steps go by themselves -/
theorem go {A B : Prop} (k : B) (e : Kp B → A := by
  intro h
  (try refine gp ?_)
  exact h.out) : A := e ⟨k⟩
end
end

section
set_option linter.all false
open Go.RowKit

/-- an order of a task -/
structure LOrd where
  op : Int
  fr : Int
  tt : Int
  nx : Int
instance : Inhabited LOrd := ⟨⟨0, 0, 0, 0⟩⟩
@[simp] def LOrd.cs (x : LOrd) : List Value := [.int .i64 x.op, .int .i64 x.fr, .int .i64 x.tt, .int .i64 x.nx]
/-- a path, and where it lies -/
structure PthR where
  os : List Int
  cnt : Int
  a : Option Addr
  c : Nat
instance : Inhabited PthR := ⟨⟨[], 0, none, 0⟩⟩
@[simp] def PthR.cs (x : PthR) : List Value := [.slice x.a x.os.length x.c, .int .i64 x.cnt]
@[simp] def icell (x : Int) : List Value := [.int .i64 x]
/-- a task, and where it lies -/
structure TD where
  os : List LOrd
  data : Int
  lines : Int
  ps : List PthR
  ao : Option Addr
  co : Nat
  ap : Option Addr
  cp : Nat
@[simp] def TD.cs (t : TD) : List Value := [.slice t.ao t.os.length t.co, .int .i64 t.data, .int .i64 t.lines, .slice t.ap t.ps.length t.cp]
structure TD.At (t : TD) (w : World) : Prop where
  o : Rd LOrd.cs 4 w t.ao t.os
  p : Rd PthR.cs 2 w t.ap t.ps
  q : ∀ x ∈ t.ps, Rd icell 1 w x.a x.os
structure TD.Len (t : TD) : Prop where
  o : t.os.length ≤ 9223372036854775807
  p : t.ps.length ≤ 9223372036854775807
  q : ∀ x ∈ t.ps, x.os.length ≤ 9223372036854775807 ∧ x.os.length ≤ x.c
theorem TD.At.old {t : TD} {w w' : World} {Bs : List Nat} {H : List En} (h : t.At w) (hm : Mem w Bs H w') (hB : Bs = [] := by rfl) : t.At w' := by
  subst hB; exact ⟨hm.old h.o, hm.old h.p, fun x hx => hm.old (h.q x hx)⟩
theorem TD.At.at {t : TD} {w w' : World} (h : t.At w) (hb : Below w.heap.size w w') : t.At w' := ⟨h.o.at hb, h.p.at hb, fun x hx => (h.q x hx).at hb⟩

/- which words an order uses, and whither it leads, by its op -/
def fromB (op : Int) : Bool := decide (op = 1 ∨ op = 2 ∨ op = 3 ∨ op = 4 ∨ op = 5 ∨ op = 7)
def toB (op : Int) : Bool := decide (op = 1 ∨ op = 2 ∨ op = 3 ∨ op = 4 ∨ op = 6)
def twB (op : Int) : Bool := decide (op = 4)
def leadsL (o : LOrd) : List Int := if o.op = 0 then [] else if o.op = 5 then [o.nx, o.tt] else [o.nx]
def outP (n lo hi : Int) : Prop := n < lo ∨ hi < n
instance (n lo hi : Int) : Decidable (outP n lo hi) := by unfold outP; infer_instance
def oddL (n : Nat) (data : Int) (o : LOrd) : Int :=
  if outP o.op 0 7 then 2 else if (fromB o.op = true ∧ outP o.fr 0 (data - 1)) ∨ (toB o.op = true ∧ outP o.tt 0 (data - 1)) ∨ (leadsL o).any (fun i => decide (outP i 0 ((n : Int) - 1))) = true then 4 else 0
def wildL (os : List LOrd) (p : List Int) (cnt : Int) : Int :=
  if outP (p.length : Int) 1 24 then 3 else if outP cnt 1 1000 then 7 else if p.any (fun i => decide (outP i 0 ((os.length : Int) - 1))) = true then 4
  else if (List.range (p.length - 1)).any (fun i => decide (¬ lx p (i + 1) ∈ leadsL (lx os (lx p i).toNat))) = true then 2 else 0
/-- the first number below n at which f is not 0 -/
def firstBad (f : Nat → Int) (n : Nat) : Option Nat := (List.range n).find? fun i => decide (¬ f i = 0)
def chkL (t : TD) : Int × Int × Int :=
  if outP (t.os.length : Int) 1 24 ∨ 8 < (t.ps.length : Int) then (1, 0, 3) else if outP t.data 0 16 ∨ outP t.lines 1 8 then (1, 0, 7) else if t.lines * 16 < (t.os.length : Int) + t.data then (1, 0, 3)
  else match firstBad (fun i => oddL t.os.length t.data (lx t.os i)) t.os.length with
  | some i => (2, (i : Int), oddL t.os.length t.data (lx t.os i))
  | none => match firstBad (fun i => wildL t.os (lx t.ps i).os (lx t.ps i).cnt) t.ps.length with
    | some i => (3, (i : Int), wildL t.os (lx t.ps i).os (lx t.ps i).cnt)
    | none => (0, 0, 0)
theorem firstBad_some {f : Nat → Int} {n i : Nat} (h : i < n) (hi : ¬ f i = 0) (hl : ∀ j, j < i → f j = 0) : firstBad f n = some i := by
  unfold firstBad; rw [List.find?_range_eq_some]; exact ⟨by simpa using hi, by simpa using h, fun j hj => by simp [hl j hj]⟩
theorem firstBad_none {f : Nat → Int} {n : Nat} (hl : ∀ j, j < n → f j = 0) : firstBad f n = none := by
  unfold firstBad; rw [List.find?_eq_none]; intro x hx; simp at hx; simp [hl x hx]
end

section
set_option linter.all false
set_option maxRecDepth 100000
set_option maxHeartbeats 4000000
open Go.RowKit

theorem out_v (a lo hi : Int) (w : World) : Calls Tryz.prog 35 #[.int .i64 a, .int .i64 lo, .int .i64 hi] w (fun e w' => e = .returned (.bool (decide (outP a lo hi))) ∧ Below w.heap.size w w') := by
  refine go_in Tryz.func35 rfl Tryz.ntmps35 [] [] (Mem.start _) ?_
  refine go ?_
  refine GoL.sp (fun h => ?_) (fun h => ?_) <;> refine go ?_ <;> refine ev1 ?_
  · simp [outP, h]
  · simp [outP, Int.not_lt.2 h]

theorem index_v (x : Int) (l : List Int) (a : Option Addr) (c : Nat) (w : World) (hl : Rd icell 1 w a l) (hn : l.length ≤ 9223372036854775807) :
    Calls Tryz.prog 121 #[.slice a l.length c, .int .i64 x] w (fun e w' => ∃ i : Int, e = .returned (.int .i64 i) ∧ Below w.heap.size w w' ∧ (0 ≤ i ↔ x ∈ l)) := by
  refine go_in Tryz.func121 rfl Tryz.ntmps121 [] [] (Mem.start _) ?_
  refine go ?_
  refine go_loop (X := Nat) (fun i => i ≤ l.length ∧ ∀ j, j < i → ¬ x = lx l j) (fun i => l.length - i) (fun i => [(8, .int .i64 i)]) (fun _ => []) 0 [0, 1, 7] ⟨Nat.zero_le _, fun j hj => by omega⟩ ⟨fun g => rfl, trivial⟩ sb (fun i hi => ?_)
  refine go ?_
  refine go_if (fun h => ?_) (fun h => ?_)
  · refine go ?_
    refine go_if (fun h2 => ?_) (fun h2 => ?_)
    · refine go ?_
      refine end1 (fun w' hw => ⟨_, rfl, hw.below, ?_⟩)
      exact ⟨fun _ => h2 ▸ lx_mem (by omega), fun _ => by omega⟩
    · refine go ?_
      refine go_again (i + 1) ⟨by omega, fun j hj => ?_⟩ (by omega) ⟨fun g => rfl, fun g => rfl, fun g => rfl, fun g => rfl, trivial⟩ sb
      rcases Nat.lt_or_ge j i with h3 | h3
      · exact hi.2 j h3
      · obtain rfl : j = i := by omega
        exact h2
  · refine go ?_
    refine end1 (fun w' hw => ⟨_, rfl, hw.below, ?_⟩)
    refine ⟨fun h => by omega, fun hx => ?_⟩
    obtain ⟨j, hj, e⟩ := List.mem_iff_getElem.1 hx
    exact absurd (by rw [lx_eq hj, e]) (hi.2 j (by omega))
theorem contains_v (x : Int) (l : List Int) (a : Option Addr) (c : Nat) (w : World) (hl : Rd icell 1 w a l) (hn : l.length ≤ 9223372036854775807) :
    Calls Tryz.prog 88 #[.slice a l.length c, .int .i64 x] w (fun e w' => e = .returned (.bool (decide (x ∈ l))) ∧ Below w.heap.size w w') := by
  refine go_in Tryz.func88 rfl Tryz.ntmps88 [] [] (Mem.start _) ?_
  refine go ?_
  refine GoL.cx (fun w' hw => index_v x l a c w' (hw.old hl) hn) (fun i hi => ?_)
  refine go ?_
  refine ev1 ?_
  simp [hi]
theorem indexFunc_v (f : FuncId) (q : Value) (p : Int → Bool) (l : List Int) (a : Option Addr) (c : Nat) (w : World) (hl : Rd icell 1 w a l) (hn : l.length ≤ 9223372036854775807) (eg : ∀ args w, (callFunc f args).run Tryz.prog w = .ok (.enter f args) w)
    (hf : ∀ x ∈ l, ∀ w', Below w.heap.size w w' → Calls Tryz.prog f #[.int .i64 x, q] w' (fun e w'' => e = .returned (.bool (p x)) ∧ Below w'.heap.size w' w'')) :
    Calls Tryz.prog 111 #[.slice a l.length c, .func (.func f) #[] #[q]] w (fun e w' => ∃ i : Int, e = .returned (.int .i64 i) ∧ Below w.heap.size w w' ∧ (0 ≤ i ↔ l.any p = true)) := by
  refine go_in Tryz.func111 rfl Tryz.ntmps111 [] [] (Mem.start _) ?_
  refine go ?_
  refine go_loop (X := Nat) (fun i => i ≤ l.length ∧ ∀ j, j < i → p (lx l j) = false) (fun i => l.length - i) (fun i => [(8, .int .i64 i)]) (fun _ => []) 0 [0, 1, 7] ⟨Nat.zero_le _, fun j hj => by omega⟩ ⟨fun g => rfl, trivial⟩ sb (fun i hi => ?_)
  refine go ?_
  refine go_if (fun h => ?_) (fun h => ?_)
  · refine go ?_
    refine GoL.cv (fun w' hw => hf _ (lx_mem (by omega)) w' hw.below) ?_
    refine go ?_
    refine go_if (fun h2 => ?_) (fun h2 => ?_)
    · refine go ?_
      refine end1 (fun w' hw => ⟨_, rfl, hw.below, ?_⟩)
      exact ⟨fun _ => List.any_eq_true.2 ⟨_, lx_mem (by omega), h2⟩, fun _ => by omega⟩
    · refine go ?_
      refine go_again (i + 1) ⟨by omega, fun j hj => ?_⟩ (by omega) ⟨fun g => rfl, fun g => rfl, fun g => rfl, fun g => rfl, trivial⟩ sb
      rcases Nat.lt_or_ge j i with h3 | h3
      · exact hi.2 j h3
      · obtain rfl : j = i := by omega
        exact h2
  · refine go ?_
    refine end1 (fun w' hw => ⟨_, rfl, hw.below, ?_⟩)
    refine ⟨fun h => by omega, fun hx => ?_⟩
    obtain ⟨x, hx, e⟩ := List.any_eq_true.1 hx
    obtain ⟨j, hj, rfl⟩ := List.mem_iff_getElem.1 hx
    have := hi.2 j (by omega)
    rw [lx_eq hj, e] at this; cases this
theorem containsFunc_v (f : FuncId) (q : Value) (p : Int → Bool) (l : List Int) (a : Option Addr) (c : Nat) (w : World) (hl : Rd icell 1 w a l) (hn : l.length ≤ 9223372036854775807) (eg : ∀ args w, (callFunc f args).run Tryz.prog w = .ok (.enter f args) w)
    (hf : ∀ x ∈ l, ∀ w', Below w.heap.size w w' → Calls Tryz.prog f #[.int .i64 x, q] w' (fun e w'' => e = .returned (.bool (p x)) ∧ Below w'.heap.size w' w'')) :
    Calls Tryz.prog 72 #[.slice a l.length c, .func (.func f) #[] #[q]] w (fun e w' => e = .returned (.bool (l.any p)) ∧ Below w.heap.size w w') := by
  refine go_in Tryz.func72 rfl Tryz.ntmps72 [] [] (Mem.start _) ?_
  refine go ?_
  refine GoL.cx (fun w' hw => indexFunc_v f q p l a c w' (hw.old hl) hn eg (fun x hx w2 hb => hf x hx w2 ((hw.below).trans (hb.mono hw.below.size)))) (fun i hi => ?_)
  refine go ?_
  refine ev1 ?_
  refine congrArg Value.bool ?_
  rw [Bool.eq_iff_iff, decide_eq_true_eq, List.any_eq_true]
end

section
set_option linter.all false
set_option pp.maxSteps 100000
set_option maxRecDepth 100000
set_option maxHeartbeats 4000000
open Go.RowKit

/-- the function that tells whither orders with this op lead -/
def leadN (op : Int) : Nat := if op = 0 then 114 else if op = 5 then 113 else 112
def useV (op : Int) : Value := .agg #[.bool (fromB op), .bool (toB op), .bool (twB op), .func (.func (leadN op)) #[] #[]]
def usesV : Value := .agg #[.bool false, .bool false, .bool false, .func (.func 114) #[] #[], .bool true, .bool true, .bool false, .func (.func 112) #[] #[], .bool true, .bool true, .bool false, .func (.func 112) #[] #[], .bool true, .bool true, .bool false, .func (.func 112) #[] #[],
  .bool true, .bool true, .bool true, .func (.func 112) #[] #[], .bool true, .bool false, .bool false, .func (.func 113) #[] #[], .bool false, .bool true, .bool false, .func (.func 112) #[] #[], .bool true, .bool false, .bool false, .func (.func 112) #[] #[]]
theorem uses_v (w : World) : Calls Tryz.prog 74 #[] w (fun e w' => e = .returned usesV ∧ Below w.heap.size w w') := by
  refine go_in Tryz.func74 rfl Tryz.ntmps74 [] [] (Mem.start _) ?_
  refine go ?_
  refine GoL.a (fun b0 => ?_)
  refine go ?_
  refine GoL.a (fun b1 => ?_)
  refine go ?_
  refine end_c ?_
  exact fin_v rfl
theorem leads1_v (o : LOrd) (w : World) : Calls Tryz.prog 112 #[.agg #[.int .i64 o.op, .int .i64 o.fr, .int .i64 o.tt, .int .i64 o.nx]] w (Ret (fun p : Option Addr × Nat => .slice p.1 1 p.2) (fun p => [.rd icell 1 p.1 [o.nx]]) w) := by
  refine go_in Tryz.func112 rfl Tryz.ntmps112 [] [] (Mem.start _) ?_
  refine go ?_
  refine GoL.a (fun b0 => ?_)
  refine go ?_
  refine GoL.as (fun b1 => ?_)
  refine go ?_
  refine end1 ?_
  exact fun w' hw => ⟨(some ⟨b1, 0, none⟩, 1), rfl, (hw.c2r (f := icell) [o.nx] rp (fun _ => rfl) rfl).done sb⟩
theorem leads2_v (o : LOrd) (w : World) : Calls Tryz.prog 113 #[.agg #[.int .i64 o.op, .int .i64 o.fr, .int .i64 o.tt, .int .i64 o.nx]] w (Ret (fun p : Option Addr × Nat => .slice p.1 2 p.2) (fun p => [.rd icell 1 p.1 [o.nx, o.tt]]) w) := by
  refine go_in Tryz.func113 rfl Tryz.ntmps113 [] [] (Mem.start _) ?_
  refine go ?_
  refine GoL.a (fun b0 => ?_)
  refine go ?_
  refine GoL.as (fun b1 => ?_)
  refine go ?_
  refine end1 ?_
  exact fun w' hw => ⟨(some ⟨b1, 0, none⟩, 2), rfl, (hw.c2r (f := icell) [o.nx, o.tt] rp (fun _ => rfl) rfl).done sb⟩
theorem leads3_v (o : LOrd) (w : World) : Calls Tryz.prog 114 #[.agg #[.int .i64 o.op, .int .i64 o.fr, .int .i64 o.tt, .int .i64 o.nx]] w (Ret (fun p : Option Addr × Nat => .slice p.1 0 p.2) (fun p => [.rd icell 1 p.1 []]) w) := by
  refine go_in Tryz.func114 rfl Tryz.ntmps114 [] [] (Mem.start _) ?_
  refine go ?_
  refine GoL.a (fun b0 => ?_)
  refine go ?_
  refine end1 ?_
  exact fun w' hw => ⟨(none, 0), rfl, hw.below, fun _ => False, fun _ h => h.elim, ⟨fun _ h => absurd rfl h, .inl rfl⟩, trivial⟩
theorem leadN_in (op : Int) : leadN op = 112 ∨ leadN op = 113 ∨ leadN op = 114 := by unfold leadN; split; exact .inr (.inr rfl); split; exact .inr (.inl rfl); exact .inl rfl
theorem callFunc1 (args : Array Value) (w : World) : (callFunc 112 args).run Tryz.prog w = .ok (.enter 112 args) w := by go_simp
theorem callFunc2 (args : Array Value) (w : World) : (callFunc 113 args).run Tryz.prog w = .ok (.enter 113 args) w := by go_simp
theorem callFunc3 (args : Array Value) (w : World) : (callFunc 114 args).run Tryz.prog w = .ok (.enter 114 args) w := by go_simp
/-- the function of an order is one of three -/
theorem leadN_call (op : Int) (args : Array Value) (w : World) : (callFunc (leadN op) args).run Tryz.prog w = .ok (.enter (leadN op) args) w := by
  rcases leadN_in op with h | h | h <;> rw [h]
  · exact callFunc1 args w
  · exact callFunc2 args w
  · exact callFunc3 args w
theorem leads_v (o : LOrd) (w : World) : Calls Tryz.prog (leadN o.op) #[.agg #[.int .i64 o.op, .int .i64 o.fr, .int .i64 o.tt, .int .i64 o.nx]] w (Ret (fun p : Option Addr × Nat => .slice p.1 (leadsL o).length p.2) (fun p => [.rd icell 1 p.1 (leadsL o)]) w) := by
  unfold leadN leadsL
  split
  · exact leads3_v o w
  · split
    · exact leads2_v o w
    · exact leads1_v o w
theorem Ex.use {w0 : World} {Bs : List Nat} {n : Nat} {L : List (Nat × Value)} {H : List En} {d : Nat} {ty : TypeId} {pos : String} {af : Array Edge} {gd : Option (Nat × Bool)} {x y : Operand} {op : Int} (hop : 0 ≤ op ∧ op ≤ 7)
    (hx : ∀ g, evF n (tab L g) x = usesV) (hy : ∀ g, evF n (tab L g) y = .int .i64 op) : Ex w0 Bs Tryz.prog n ⟨some d, .index 128 x y, ty, pos, af, gd⟩ L H (.agg #[.bool (fromB op), .bool (toB op), .bool (twB op), .func (.func (leadN op)) #[] #[]]) := fun g w hw => by
  have key : (Instr.index 128 usesV (.int .i64 op)).run Tryz.prog w = .ok (useV op) w := by
    have h8 : op = 0 ∨ op = 1 ∨ op = 2 ∨ op = 3 ∨ op = 4 ∨ op = 5 ∨ op = 6 ∨ op = 7 := by omega
    rcases h8 with rfl | rfl | rfl | rfl | rfl | rfl | rfl | rfl <;> (unfold usesV; go_simp) <;> rfl
  unfold useV at key
  simp only [execOp, hx g, hy g, Sem.run_bind, key, Result.andThen_ok, Sem.run_pure]
end

section
set_option linter.all false
set_option pp.maxSteps 100000
set_option maxRecDepth 100000
set_option maxHeartbeats 4000000
open Go.RowKit

theorem oddS_v (t : TD) (b : Nat) (i : Int) (w : World) (hc : Cells w b t.cs) (hn : t.os.length ≤ 9223372036854775807) : Calls Tryz.prog 86 #[.int .i64 i, .pointer (some ⟨b, 0, none⟩)] w (fun e w' => e = .returned (.bool (decide (outP i 0 ((t.os.length : Int) - 1)))) ∧ Below w.heap.size w w') := by
  simp only [TD.cs] at hc
  refine go_in Tryz.func86 rfl Tryz.ntmps86 [] [] (Mem.start _) ?_
  refine go ?_
  refine GoL.cv (fun w' hw => out_v _ _ _ w') ?_
  refine go ?_
  exact ev1 rfl
theorem wildS_v (t : TD) (b : Nat) (i : Int) (w : World) (hc : Cells w b t.cs) (hn : t.os.length ≤ 9223372036854775807) : Calls Tryz.prog 87 #[.int .i64 i, .pointer (some ⟨b, 0, none⟩)] w (fun e w' => e = .returned (.bool (decide (outP i 0 ((t.os.length : Int) - 1)))) ∧ Below w.heap.size w w') := by
  simp only [TD.cs] at hc
  refine go_in Tryz.func87 rfl Tryz.ntmps87 [] [] (Mem.start _) ?_
  refine go ?_
  refine GoL.cv (fun w' hw => out_v _ _ _ w') ?_
  refine go ?_
  exact ev1 rfl
theorem callOdd (args : Array Value) (w : World) : (callFunc 86 args).run Tryz.prog w = .ok (.enter 86 args) w := by go_simp
theorem callWild (args : Array Value) (w : World) : (callFunc 87 args).run Tryz.prog w = .ok (.enter 87 args) w := by go_simp
theorem leads_len (o : LOrd) : (leadsL o).length ≤ 9223372036854775807 := by unfold leadsL; split; simp; split <;> simp
theorem odd_v (t : TD) (o : LOrd) (w : World) (hn : t.os.length ≤ 9223372036854775807) (hd : 0 ≤ t.data ∧ t.data ≤ 16) :
    Calls Tryz.prog 36 #[.agg #[.slice t.ao t.os.length t.co, .int .i64 t.data, .int .i64 t.lines, .slice t.ap t.ps.length t.cp], .agg #[.int .i64 o.op, .int .i64 o.fr, .int .i64 o.tt, .int .i64 o.nx]] w (fun e w' => e = .returned (.int .i64 (oddL t.os.length t.data o)) ∧ Below w.heap.size w w') := by
  refine go_in Tryz.func36 rfl Tryz.ntmps36 [] [] (Mem.start _) ?_
  refine go ?_
  refine GoL.a (fun b1 => ?_)
  refine go ?_
  refine GoL.a (fun b2 => ?_)
  refine go ?_
  refine GoL.cv (fun w' hw => out_v _ _ _ w') ?_
  refine go ?_
  refine go_if (fun h => ?_) (fun h => ?_)
  · refine go ?_
    refine ev1 ?_
    rw [oddL, if_pos h]
  have hop : 0 ≤ o.op ∧ o.op ≤ 7 := by unfold outP at h; omega
  refine go ?_
  refine D.cv (fun F w' hw => uses_v w') ?_
  refine go ?_
  refine D.q ⟨_, fun X F => Ex.use hop (fun g => rfl) (fun g => rfl), ?_⟩
  refine go ?_
  refine D.al ?_
  refine go ?_
  refine D.nilp 4 (fun b3 => ?_)
  refine go ?_
  refine GoL.jk 8 [(25, .bool (decide (fromB o.op = true ∧ outP o.fr 0 (t.data - 1))))] [2, 3, 5, 6] ?_ ?_
  · refine GoL.sp (fun h1 => ?_) (fun h1 => ?_)
    · refine go ?_
      refine GoL.cv (fun w' hw => out_v _ _ _ w') ?_
      refine go ?_
      exact GoL.jd (by simp [AgreeL, At, h1]) sb
    · refine go ?_
      exact GoL.jd (by simp [AgreeL, At, h1]) sb
  refine go ?_
  refine GoL.jk 12 [(37, .bool (decide ((fromB o.op = true ∧ outP o.fr 0 (t.data - 1)) ∨ (toB o.op = true ∧ outP o.tt 0 (t.data - 1)))))] [2, 3, 5, 6] ?_ ?_
  · refine GoL.sp (fun h1 => ?_) (fun h1 => ?_)
    · refine go ?_
      exact GoL.jd (by simp [AgreeL, At, h1]) sb
    · refine go ?_
      refine GoL.sp (fun h2 => ?_) (fun h2 => ?_)
      · refine go ?_
        refine GoL.cv (fun w' hw => out_v _ _ _ w') ?_
        refine go ?_
        exact GoL.jd (by simp [AgreeL, At, h1, h2]) sb
      · refine go ?_
        exact GoL.jd (by simp [AgreeL, At, h1, h2]) sb
  refine go ?_
  refine GoL.sp (fun h1 => ?_) (fun h1 => ?_)
  · refine go ?_
    refine ev1 ?_
    rw [oddL, if_neg h, if_pos (by rcases h1 with h1 | h1; exact .inl h1; exact .inr (.inl h1))]
  have hcl := leadN_call o.op
  refine go ?_
  refine GoL.c (fun w' hw => leads_v o w') (fun r => ?_)
  refine go ?_
  refine GoL.cv (fun w' hw => containsFunc_v 86 _ (fun i => decide (outP i 0 ((t.os.length : Int) - 1))) (leadsL o) _ _ w' (hw.rd pk) (leads_len o) callOdd (fun x hx w2 hb => oddS_v t b1 x w2 ((hw.cells (b := b1) (l := t.cs) pk).at hb) hn)) ?_
  refine go ?_
  refine go_if (fun h2 => ?_) (fun h2 => ?_)
  · refine go ?_
    refine ev1 ?_
    rw [oddL, if_neg h, if_pos (.inr (.inr h2))]
  · refine go ?_
    refine ev1 ?_
    rw [oddL, if_neg h, if_neg (fun h3 => ?_)]
    rcases h3 with h3 | h3 | h3
    · exact h1 (.inl h3)
    · exact h1 (.inr h3)
    · rw [h2] at h3; cases h3
end

section
set_option linter.all false
set_option pp.maxSteps 100000
set_option maxRecDepth 100000
set_option maxHeartbeats 4000000
open Go.RowKit

theorem wild_v (t : TD) (p : PthR) (w : World) (hn : t.os.length ≤ 9223372036854775807) (hp : p.os.length ≤ 9223372036854775807 ∧ p.os.length ≤ p.c) (hok : ∀ x ∈ t.os, 0 ≤ x.op ∧ x.op ≤ 7) (hT : t.At w) (hq : Rd icell 1 w p.a p.os) :
    Calls Tryz.prog 37 #[.agg #[.slice t.ao t.os.length t.co, .int .i64 t.data, .int .i64 t.lines, .slice t.ap t.ps.length t.cp], .agg #[.slice p.a p.os.length p.c, .int .i64 p.cnt]] w (fun e w' => e = .returned (.int .i64 (wildL t.os p.os p.cnt)) ∧ Below w.heap.size w w') := by
  have hto := hT.o
  have hpc := hp.2
  refine go_in Tryz.func37 rfl Tryz.ntmps37 [] [] (Mem.start _) ?_
  refine go ?_
  refine GoL.a (fun b1 => ?_)
  refine go ?_
  refine GoL.a (fun b2 => ?_)
  refine go ?_
  refine GoL.cv (fun w' hw => out_v _ _ _ w') ?_
  refine go ?_
  refine go_if (fun h => ?_) (fun h => ?_)
  · refine go ?_
    refine ev1 ?_
    rw [wildL, if_pos h]
  refine go ?_
  refine GoL.cv (fun w' hw => out_v _ _ _ w') ?_
  refine go ?_
  refine go_if (fun h2 => ?_) (fun h2 => ?_)
  · refine go ?_
    refine ev1 ?_
    rw [wildL, if_neg h, if_pos h2]
  refine go ?_
  refine GoL.cv (fun w' hw => containsFunc_v 87 _ (fun i => decide (outP i 0 ((t.os.length : Int) - 1))) p.os _ _ w' (hw.old hq) hp.1 callWild (fun x hx w2 hb => wildS_v t b1 x w2 ((hw.cells (b := b1) (l := t.cs) pk).at hb) hn)) ?_
  refine go ?_
  refine go_if (fun h3 => ?_) (fun h3 => ?_)
  · refine go ?_
    refine ev1 ?_
    rw [wildL, if_neg h, if_neg h2, if_pos h3]
  have hle : 1 ≤ p.os.length ∧ p.os.length ≤ 24 := by unfold outP at h; omega
  refine go ?_
  refine go_loop (X := Nat) (fun i => i + 1 ≤ p.os.length ∧ ∀ j, j < i → lx p.os (j + 1) ∈ leadsL (lx t.os (lx p.os j).toNat)) (fun i => p.os.length - i) (fun i => [(26, .int .i64 i)]) (fun _ => [.cells b2 [.slice p.a p.os.length p.c, .int .i64 p.cnt], .cells b1 [.slice t.ao t.os.length t.co, .int .i64 t.data, .int .i64 t.lines, .slice t.ap t.ps.length t.cp]]) 0 [2, 3, 24, 25] ⟨hle.1, fun j hj => by omega⟩ ⟨fun g => rfl, trivial⟩ sb (fun i hi => ?_)
  refine go ?_
  refine go_if (fun h4 => ?_) (fun h4 => ?_)
  · have h5 : i + 1 < p.os.length := by omega
    have h6 : ¬ outP (lx p.os i) 0 ((t.os.length : Int) - 1) := by
      have := List.any_eq_false.1 h3 _ (lx_mem (l := p.os) (i := i) (by omega))
      simpa using this
    have h7 : 0 ≤ lx p.os i ∧ lx p.os i < t.os.length := by unfold outP at h6; omega
    have hop := hok _ (lx_mem (l := t.os) (i := (lx p.os i).toNat) (by omega))
    refine go ?_
    refine D.al ?_
    refine go ?_
    refine D.nilp 9 (fun b3 => ?_)
    refine go ?_
    refine D.cv (fun F w' hw => uses_v w') ?_
    refine go ?_
    refine D.q ⟨_, fun X F => Ex.use hop (fun g => rfl) (fun g => rfl), ?_⟩
    have hcl := leadN_call (lx t.os (lx p.os i).toNat).op
    refine go ?_
    refine D.c (fun F w' hw => leads_v (lx t.os (lx p.os i).toNat) w') ?_
    refine go ?_
    refine D.cu (v := .bool (decide (lx p.os (i + 1) ∈ leadsL (lx t.os (lx p.os i).toNat)))) [6] (fun X F w' hw => ?_) ?_
    · obtain ⟨x, hx, hm⟩ := Mem.rtE hw
      show Calls _ _ #[X 6, _] _ _
      rw [hx]
      exact contains_v _ _ _ _ _ (hm.rd Pick.here) (leads_len _)
    refine go ?_
    refine D.nil [] (fun X => ?_)
    refine go ?_
    refine go_if (fun h8 => ?_) (fun h8 => ?_)
    · refine go ?_
      refine ev1 ?_
      rw [wildL, if_neg h, if_neg h2, if_neg (by rw [h3]; decide), if_pos]
      exact List.any_eq_true.2 ⟨i, by simp; omega, by simpa using h8⟩
    · refine go ?_
      refine go_again (i + 1) ⟨by omega, fun j hj => ?_⟩ (by omega) ⟨fun g => rfl, fun g => rfl, fun g => rfl, fun g => rfl, fun g => rfl, trivial⟩ sb
      rcases Nat.lt_or_ge j i with h9 | h9
      · exact hi.2 j h9
      · obtain rfl : j = i := by omega
        simpa using h8
  · refine go ?_
    refine ev1 ?_
    rw [wildL, if_neg h, if_neg h2, if_neg (by rw [h3]; decide), if_neg]
    intro h5
    obtain ⟨j, hj, h6⟩ := List.any_eq_true.1 h5
    simp at hj h6
    exact h6 (hi.2 j (by omega))
end

section
set_option linter.all false
set_option pp.maxSteps 100000
set_option maxRecDepth 100000
set_option maxHeartbeats 4000000
open Go.RowKit

theorem check_v (t : TD) (p i e : Int) (w : World) (hT : t.At w) (hL : t.Len) (hr : chkL t = (p, i, e)) :
    Calls Tryz.prog 11 #[.agg #[.slice t.ao t.os.length t.co, .int .i64 t.data, .int .i64 t.lines, .slice t.ap t.ps.length t.cp]] w (fun e' w' => e' = .returned (.tuple #[.int .i64 p, .int .i64 i, .int .i64 e]) ∧ Below w.heap.size w w') := by
  have hto := hT.o
  have htp := hT.p
  have hn := hL.o
  have hm := hL.p
  refine go_in Tryz.func11 rfl Tryz.ntmps11 [] [] (Mem.start _) ?_
  refine go ?_
  refine GoL.a (fun b1 => ?_)
  refine go ?_
  refine GoL.cv (fun w' hw => out_v _ _ _ w') ?_
  refine go ?_
  refine GoL.jk 6 [(9, .bool (decide (outP (t.os.length : Int) 1 24 ∨ 8 < (t.ps.length : Int))))] [1] ?_ ?_
  · refine GoL.sp (fun h1 => ?_) (fun h1 => ?_)
    · refine go ?_
      exact GoL.jd (by simp [AgreeL, At, h1]) sb
    · refine go ?_
      exact GoL.jd (by simp [AgreeL, At, h1]) sb
  refine go ?_
  refine go_if (fun h => ?_) (fun h => ?_)
  · refine go ?_
    refine ev3 ?_
    rw [chkL, if_pos h] at hr
    simp only [Prod.mk.injEq] at hr
    obtain ⟨rfl, rfl, rfl⟩ := hr
    exact ⟨rfl, rfl, rfl⟩
  refine go ?_
  refine GoL.cv (fun w' hw => out_v _ _ _ w') ?_
  refine go ?_
  refine GoL.jk 5 [(20, .bool (decide (outP t.data 0 16 ∨ outP t.lines 1 8)))] [1] ?_ ?_
  · refine GoL.sp (fun h1 => ?_) (fun h1 => ?_)
    · refine go ?_
      exact GoL.jd (by simp [AgreeL, At, h1]) sb
    · refine go ?_
      refine GoL.cv (fun w' hw => out_v _ _ _ w') ?_
      refine go ?_
      exact GoL.jd (by simp [AgreeL, At, h1]) sb
  refine go ?_
  refine go_if (fun h2 => ?_) (fun h2 => ?_)
  · refine go ?_
    refine ev3 ?_
    rw [chkL, if_neg h, if_pos h2] at hr
    simp only [Prod.mk.injEq] at hr
    obtain ⟨rfl, rfl, rfl⟩ := hr
    exact ⟨rfl, rfl, rfl⟩
  have hb : (t.os.length : Int) ≤ 24 ∧ 0 ≤ t.data ∧ t.data ≤ 16 ∧ 1 ≤ t.lines ∧ t.lines ≤ 8 ∧ 1 ≤ (t.os.length : Int) ∧ (t.ps.length : Int) ≤ 8 := by unfold outP at h h2; omega
  refine go ?_
  refine go_if (fun h3 => ?_) (fun h3 => ?_)
  · refine go ?_
    refine ev3 ?_
    rw [chkL, if_neg h, if_neg h2, if_pos h3] at hr
    simp only [Prod.mk.injEq] at hr
    obtain ⟨rfl, rfl, rfl⟩ := hr
    exact ⟨rfl, rfl, rfl⟩
  rw [chkL, if_neg h, if_neg h2, if_neg (by omega)] at hr
  refine go ?_
  refine go_loop (X := Nat) (fun k => k ≤ t.os.length ∧ ∀ j, j < k → oddL t.os.length t.data (lx t.os j) = 0) (fun k => t.os.length - k) (fun k => [(43, .int .i64 k)]) (fun _ => [.cells b1 [.slice t.ao t.os.length t.co, .int .i64 t.data, .int .i64 t.lines, .slice t.ap t.ps.length t.cp]]) 0 [1, 41, 42] ⟨Nat.zero_le _, fun j hj => by omega⟩ ⟨fun g => rfl, trivial⟩ sb (fun k hk => ?_)
  refine go ?_
  refine go_if (fun h4 => ?_) (fun h4 => ?_)
  · have h5 : k < t.os.length := by omega
    refine go ?_
    refine GoL.a (fun b2 => ?_)
    refine go ?_
    refine GoL.cv (fun w' hw => odd_v t (lx t.os k) w' hn ⟨hb.2.1, hb.2.2.1⟩) ?_
    refine go ?_
    refine go_if (fun h6 => ?_) (fun h6 => ?_)
    · refine go ?_
      refine ev3 ?_
      rw [firstBad_some h5 h6 hk.2] at hr
      simp only [Prod.mk.injEq] at hr
      obtain ⟨rfl, rfl, rfl⟩ := hr
      exact ⟨rfl, rfl, rfl⟩
    · refine go ?_
      refine go_again (k + 1) ⟨by omega, fun j hj => ?_⟩ (by omega) ⟨fun g => rfl, fun g => rfl, fun g => rfl, fun g => rfl, trivial⟩ sb
      rcases Nat.lt_or_ge j k with h9 | h9
      · exact hk.2 j h9
      · obtain rfl : j = k := by omega
        simpa using h6
  have hodd : ∀ j, j < t.os.length → oddL t.os.length t.data (lx t.os j) = 0 := fun j hj => hk.2 j (by omega)
  rw [firstBad_none hodd] at hr
  have hok : ∀ x ∈ t.os, 0 ≤ x.op ∧ x.op ≤ 7 := fun x hx => by
    obtain ⟨j, hj, rfl⟩ := List.mem_iff_getElem.1 hx
    have h5 := hodd j hj
    rw [lx_eq hj, oddL] at h5
    by_cases h6 : outP (t.os[j]).op 0 7
    · rw [if_pos h6] at h5; cases h5
    · unfold outP at h6; omega
  refine go ?_
  refine go_loop (X := Nat) (fun k => k ≤ t.ps.length ∧ ∀ j, j < k → wildL t.os (lx t.ps j).os (lx t.ps j).cnt = 0) (fun k => t.ps.length - k) (fun k => [(59, .int .i64 k)]) (fun _ => [.cells b1 [.slice t.ao t.os.length t.co, .int .i64 t.data, .int .i64 t.lines, .slice t.ap t.ps.length t.cp]]) 0 [1, 57, 58] ⟨Nat.zero_le _, fun j hj => by omega⟩ ⟨fun g => rfl, trivial⟩ sb (fun k hk => ?_)
  refine go ?_
  refine go_if (fun h4 => ?_) (fun h4 => ?_)
  · have h5 : k < t.ps.length := by omega
    refine go ?_
    refine GoL.a (fun b2 => ?_)
    refine go ?_
    refine GoL.cv (fun w' hw => wild_v t (lx t.ps k) w' hn (hL.q _ (lx_mem h5)) hok (hT.old hw) (hw.old (hT.q _ (lx_mem h5)))) ?_
    refine go ?_
    refine go_if (fun h6 => ?_) (fun h6 => ?_)
    · refine go ?_
      refine ev3 ?_
      rw [firstBad_some h5 h6 hk.2] at hr
      simp only [Prod.mk.injEq] at hr
      obtain ⟨rfl, rfl, rfl⟩ := hr
      exact ⟨rfl, rfl, rfl⟩
    · refine go ?_
      refine go_again (k + 1) ⟨by omega, fun j hj => ?_⟩ (by omega) ⟨fun g => rfl, fun g => rfl, fun g => rfl, fun g => rfl, trivial⟩ sb
      rcases Nat.lt_or_ge j k with h9 | h9
      · exact hk.2 j h9
      · obtain rfl : j = k := by omega
        simpa using h6
  rw [firstBad_none (fun j hj => hk.2 j (by omega))] at hr
  simp only [Prod.mk.injEq] at hr
  obtain ⟨rfl, rfl, rfl⟩ := hr
  refine go ?_
  exact ev3 ⟨rfl, rfl, rfl⟩
end

section
set_option linter.all false
open Go.RowKit

/-- an event: an item comes by, so many minor cycles at least after the one before -/
structure Evt where
  item : Int
  wait : Int
instance : Inhabited Evt := ⟨⟨0, 0⟩⟩
@[simp] def Evt.cs (x : Evt) : List Value := [.int .i64 x.item, .int .i64 x.wait]
/-- the events of a path, and where they lie -/
structure EvR where
  l : List Evt
  a : Option Addr
  c : Nat
instance : Inhabited EvR := ⟨⟨[], none, 0⟩⟩
@[simp] def EvR.cs (x : EvR) : List Value := [.slice x.a x.l.length x.c]
/-- a plan, and where it lies -/
structure PD where
  t : TD
  es : List EvR
  ae : Option Addr
  ce : Nat
structure PD.At (x : PD) (b : Nat) (w : World) : Prop where
  c : Cells w b [.slice x.t.ao x.t.os.length x.t.co, .int .i64 x.t.data, .int .i64 x.t.lines, .slice x.t.ap x.t.ps.length x.t.cp, .slice x.ae x.es.length x.ce]
  t : x.t.At w
  e : Rd EvR.cs 1 w x.ae x.es
  q : ∀ y ∈ x.es, Rd Evt.cs 2 w y.a y.l
theorem PD.At.old {x : PD} {b : Nat} {w w' : World} {H : List En} (h : x.At b w) (hm : Mem w [] H w') : x.At b w' :=
  ⟨hm.oldC h.c, h.t.old hm, hm.old h.e, fun y hy => hm.old (h.q y hy)⟩
theorem PD.At.at {x : PD} {b : Nat} {w w' : World} (h : x.At b w) (hb : Below w.heap.size w w') : x.At b w' :=
  ⟨h.c.at hb, h.t.at hb, h.e.at hb, fun y hy => (h.q y hy).at hb⟩
/-- a task that Check accepts, and its events, as plain numbers: what the walks need -/
structure PD.Ok (x : PD) : Prop where
  n1 : 1 ≤ x.t.os.length ∧ x.t.os.length ≤ 24
  d1 : 0 ≤ x.t.data ∧ x.t.data ≤ 16
  l1 : 1 ≤ x.t.lines ∧ x.t.lines ≤ 8
  p1 : x.t.ps.length ≤ 8
  it : (x.t.os.length : Int) + x.t.data ≤ x.t.lines * 16
  e1 : x.es.length = x.t.ps.length
  cnt : ∀ y ∈ x.t.ps, 1 ≤ y.cnt ∧ y.cnt ≤ 1000
  len : ∀ y ∈ x.es, 1 ≤ y.l.length ∧ y.l.length ≤ 96 ∧ y.l.length ≤ y.c
  item : ∀ y ∈ x.es, ∀ v ∈ y.l, 0 ≤ v.item ∧ v.item < (x.t.os.length : Int) + x.t.data ∧ 0 ≤ v.wait ∧ v.wait ≤ 12
def PD.n (x : PD) : Nat := x.t.os.length + x.t.data.toNat
theorem PD.Ok.nn {x : PD} (h : x.Ok) : ((x.n : Nat) : Int) = (x.t.os.length : Int) + x.t.data := by have := h.d1; unfold PD.n; omega
theorem i64_andm (n : Int) (m : Nat) (hm : m ≤ 62) (c : Int) (hc : c = ((2 ^ m - 1 : Nat) : Int)) : bits .and .i64 n c = n % ((2 ^ m : Nat) : Int) := by
  subst hc
  have hp : 2 ^ m ≤ 2 ^ 62 := Nat.pow_le_pow_right (by decide) hm
  have hp0 : 0 < 2 ^ m := Nat.pow_pos (by decide)
  have h1 : (BitVec.ofInt 64 (((2 ^ m - 1 : Nat) : Int))).toNat = 2 ^ m - 1 := by
    rw [BitVec.ofInt_natCast, BitVec.toNat_ofNat]; exact Nat.mod_eq_of_lt (by omega)
  have key : (BitVec.ofInt 64 n &&& BitVec.ofInt 64 (((2 ^ m - 1 : Nat) : Int))).toNat = (n % ((2 ^ 64 : Nat) : Int)).toNat % 2 ^ m := by
    rw [BitVec.toNat_and, BitVec.toNat_ofInt, h1, Nat.and_two_pow_sub_one_eq_mod]
  show IntKind.i64.wrap ((BitVec.ofInt 64 n &&& BitVec.ofInt 64 (((2 ^ m - 1 : Nat) : Int))).toNat : Nat) = _
  rw [key, IntKind.wrap_i64]
  have hd : ((2 ^ m : Nat) : Int) ∣ ((2 ^ 64 : Nat) : Int) := Int.natCast_dvd_natCast.2 (Nat.pow_dvd_pow 2 (by omega))
  have e1 : (((n % ((2 ^ 64 : Nat) : Int)).toNat % 2 ^ m : Nat) : Int) = n % ((2 ^ m : Nat) : Int) := by
    rw [Int.natCast_emod, Int.toNat_of_nonneg (Int.emod_nonneg _ (by decide)), Int.emod_emod_of_dvd _ hd]
  rw [e1]
  have b1 := Int.emod_nonneg n (b := ((2 ^ m : Nat) : Int)) (by omega)
  have b2 := Int.emod_lt_of_pos n (b := ((2 ^ m : Nat) : Int)) (by omega)
  omega
@[simp] theorem i64_and15 (n : Int) : bits .and .i64 n 15 = n % 16 := i64_andm n 4 (by decide) 15 (by decide)
/- what a layout takes -/
def stepT (lay : List Int) (t : Int) (v : Evt) : Int := t + (v.wait + 1) + (lx lay v.item.toNat - (t + (v.wait + 1))) % 16
def beginT (lay : List Int) (l : List Evt) : Int := lx lay (lx l 0).item.toNat
/-- the time of event i -/
def timeT (lay : List Int) (l : List Evt) : Nat → Int
  | 0 => beginT lay l
  | i + 1 => stepT lay (timeT lay l i) (lx l (i + 1))
def pathT (lay : List Int) (l : List Evt) : Int := timeT lay l (l.length - 1) - beginT lay l
def costT (cnt : Nat → Int) (es : Nat → List Evt) (lay : List Int) : Nat → Int
  | 0 => 0
  | i + 1 => costT cnt es lay i + cnt i * pathT lay (es i)
def PD.cost (x : PD) (lay : List Int) : Int := costT (fun i => (lx x.t.ps i).cnt) (fun i => (lx x.es i).l) lay x.es.length
theorem timeT_bd {lay : List Int} {l : List Evt} (h : ∀ v ∈ l, 0 ≤ v.wait ∧ v.wait ≤ 12) : ∀ i, i < l.length → beginT lay l + i ≤ timeT lay l i ∧ timeT lay l i ≤ beginT lay l + 28 * i
  | 0, _ => by simp [timeT]
  | i + 1, hi => by
    have ih := timeT_bd (lay := lay) h i (by omega)
    have hv := h _ (lx_mem hi)
    have h1 : 0 ≤ (lx lay (lx l (i + 1)).item.toNat - (timeT lay l i + ((lx l (i + 1)).wait + 1))) % 16 := Int.emod_nonneg _ (by decide)
    have h2 : (lx lay (lx l (i + 1)).item.toNat - (timeT lay l i + ((lx l (i + 1)).wait + 1))) % 16 < 16 := Int.emod_lt_of_pos _ (by decide)
    simp only [timeT, stepT]
    push_cast
    omega
theorem costT_bd {cnt : Nat → Int} {es : Nat → List Evt} {lay : List Int} {m : Nat} (hc : ∀ i, i < m → 1 ≤ cnt i ∧ cnt i ≤ 1000) (he : ∀ i, i < m → 0 ≤ pathT lay (es i) ∧ pathT lay (es i) ≤ 3000) : ∀ i, i ≤ m → 0 ≤ costT cnt es lay i ∧ costT cnt es lay i ≤ 3000000 * i
  | 0, _ => by simp [costT]
  | i + 1, hi => by
    have ih := costT_bd hc he i (by omega)
    have h1 := hc i (by omega)
    have h2 := he i (by omega)
    have h3 : 0 ≤ cnt i * pathT lay (es i) := Int.mul_nonneg (by omega) h2.1
    have h4 : cnt i * pathT lay (es i) ≤ 1000 * 3000 := Int.mul_le_mul h1.2 h2.2 h2.1 (by omega)
    simp only [costT]
    push_cast
    omega
theorem pathT_bd {lay : List Int} {l : List Evt} (h : ∀ v ∈ l, 0 ≤ v.wait ∧ v.wait ≤ 12) (hl : 1 ≤ l.length ∧ l.length ≤ 96) : 0 ≤ pathT lay l ∧ pathT lay l ≤ 3000 := by
  have := timeT_bd (lay := lay) h (l.length - 1) (by omega)
  unfold pathT
  omega
/-- the error of a layout -/
def layE (n : Nat) (lines : Int) (lay : List Int) : Int :=
  if ¬ lay.length = n then 3 else match firstBad (fun i => if outP (lx lay i) 0 (lines * 16 - 1) then 7 else if lx lay i ∈ lay.take i then 5 else 0) lay.length with
  | some i => if outP (lx lay i) 0 (lines * 16 - 1) then 7 else 5
  | none => 0
end

section
set_option linter.all false
set_option pp.maxSteps 100000
set_option maxRecDepth 100000
set_option maxHeartbeats 4000000
open Go.RowKit

theorem items_v (x : PD) (b : Nat) (w : World) (hx : x.At b w) (ho : x.Ok) : Calls Tryz.prog 65 #[.pointer (some ⟨b, 0, none⟩)] w (fun e w' => e = .returned (.int .i64 x.n) ∧ Below w.heap.size w w') := by
  have hc := hx.c
  have h1 := ho.n1
  have h2 := ho.d1
  rw [ho.nn]
  refine go_in Tryz.func65 rfl Tryz.ntmps65 [] [] (Mem.start _) ?_
  refine go ?_
  exact ev1 rfl
theorem pcheck_v (x : PD) (b : Nat) (lay : List Int) (al : Option Addr) (cl : Nat) (w : World) (hx : x.At b w) (ho : x.Ok) (hl : Rd icell 1 w al lay) (hn : lay.length ≤ 9223372036854775807 ∧ lay.length ≤ cl) :
    Calls Tryz.prog 42 #[.pointer (some ⟨b, 0, none⟩), .slice al lay.length cl] w (fun e w' => e = .returned (.int .i64 (layE x.n x.t.lines lay)) ∧ Below w.heap.size w w') := by
  have hc := hx.c
  have h1 := ho.l1
  have hn1 := hn.1
  have hn2 := hn.2
  refine go_in Tryz.func42 rfl Tryz.ntmps42 [] [] (Mem.start _) ?_
  refine go ?_
  refine GoL.cv (fun w' hw => items_v x b w' (hx.old hw) ho) ?_
  refine go ?_
  refine go_if (fun h => ?_) (fun h => ?_)
  · refine go ?_
    refine ev1 ?_
    rw [layE, if_pos (show ¬ lay.length = x.n from fun h' => h (by rw [h']))]
  rw [layE, if_neg (show ¬ ¬ lay.length = x.n from fun h' => h' (Int.ofNat_inj.1 h))]
  refine go ?_
  refine go_loop (X := Nat) (fun k => k ≤ lay.length ∧ ∀ j, j < k → (if outP (lx lay j) 0 (x.t.lines * 16 - 1) then (7 : Int) else if lx lay j ∈ lay.take j then 5 else 0) = 0) (fun k => lay.length - k) (fun k => [(14, .int .i64 k)]) (fun _ => []) 0 [0, 1, 12, 13] ⟨Nat.zero_le _, fun j hj => by omega⟩ ⟨fun g => rfl, trivial⟩ sb (fun k hk => ?_)
  refine go ?_
  refine go_if (fun h4 => ?_) (fun h4 => ?_)
  · have h5 : k < lay.length := by omega
    refine go ?_
    refine GoL.cv (fun w' hw => out_v _ _ _ w') ?_
    refine go ?_
    refine go_if (fun h6 => ?_) (fun h6 => ?_)
    · refine go ?_
      refine ev1 ?_
      rw [firstBad_some h5 (by rw [if_pos h6]; decide) hk.2]
      simp only [if_pos h6]
    · refine go ?_
      refine GoL.cv (fun w' hw => contains_v (lx lay k) (lay.take k) al cl w' ((hw.old hl).take k) (by simp; omega)) ?_
      refine go ?_
      refine go_if (fun h7 => ?_) (fun h7 => ?_)
      · refine go ?_
        refine ev1 ?_
        rw [firstBad_some h5 (by rw [if_neg h6, if_pos h7]; decide) hk.2]
        simp only [if_neg h6]
      · refine go ?_
        refine go_again (k + 1) ⟨by omega, fun j hj => ?_⟩ (by omega) ⟨fun g => rfl, fun g => rfl, fun g => rfl, fun g => rfl, fun g => rfl, trivial⟩ sb
        rcases Nat.lt_or_ge j k with h9 | h9
        · exact hk.2 j h9
        · obtain rfl : j = k := by omega
          rw [if_neg h6, if_neg h7]
  rw [firstBad_none (fun j hj => hk.2 j (by omega))]
  refine go ?_
  exact ev1 rfl
theorem cost_v (x : PD) (b : Nat) (lay : List Int) (al : Option Addr) (cl : Nat) (w : World) (hx : x.At b w) (ho : x.Ok) (hl : Rd icell 1 w al lay) (hn : lay.length = x.n) (hlay : ∀ a ∈ lay, 0 ≤ a ∧ a ≤ 127) :
    Calls Tryz.prog 43 #[.pointer (some ⟨b, 0, none⟩), .slice al lay.length cl] w (fun e w' => e = .returned (.int .i64 (x.cost lay)) ∧ Below w.heap.size w w') := by
  have hc := hx.c
  have hev := hx.e
  have htp := hx.t.p
  have hp1 := ho.p1
  have HE := hid ho.e1
  have HN := hid hn
  clear hn
  have hit : ∀ y ∈ x.es, ∀ v ∈ y.l, 0 ≤ v.item ∧ v.item < (lay.length : Int) ∧ 0 ≤ v.wait ∧ v.wait ≤ 12 := fun y hy v hv => by
    have h1 := ho.item y hy v hv
    have h2 := ho.nn
    have h3 := HN.out
    omega
  have hcb := costT_bd (cnt := fun i => (lx x.t.ps i).cnt) (es := fun i => (lx x.es i).l) (lay := lay) (m := x.es.length) (fun i hi => ho.cnt _ (lx_mem (by have := HE.out; omega))) (fun i hi => pathT_bd (fun v hv => (ho.item _ (lx_mem hi) v hv).2.2) ⟨(ho.len _ (lx_mem hi)).1, (ho.len _ (lx_mem hi)).2.1⟩)
  refine go_in Tryz.func43 rfl Tryz.ntmps43 [] [] (Mem.start _) ?_
  refine go ?_
  refine go_loop (X := Nat) (fun i => i ≤ x.es.length) (fun i => x.es.length - i) (fun i => [(16, .int .i64 i), (4, .int .i64 (costT (fun i => (lx x.t.ps i).cnt) (fun i => (lx x.es i).l) lay i))]) (fun _ => []) 0 [0, 1, 14, 15] (Nat.zero_le _) ⟨fun g => rfl, fun g => rfl, trivial⟩ sb (fun i hi => ?_)
  refine go ?_
  refine go_if (fun h => ?_) (fun h => ?_)
  · have hi' : i < x.es.length := by omega
    have hEm := lx_mem (l := x.es) hi'
    have h1 := hx.q _ hEm
    have h2 := ho.len _ hEm
    have h3 := hit _ hEm _ (lx_mem (l := (lx x.es i).l) (i := 0) h2.1)
    have h4 := h2.2.2
    have hb := hlay _ (lx_mem (l := lay) (i := (lx (lx x.es i).l 0).item.toNat) (by omega))
    have hip : i < x.t.ps.length := by have := HE.out; omega
    have hcnt := ho.cnt _ (lx_mem (l := x.t.ps) (i := i) (by have := HE.out; omega))
    refine go ?_
    refine go_loop (X := Nat) (fun k => k + 1 ≤ (lx x.es i).l.length) (fun k => (lx x.es i).l.length - k) (fun k => [(32, .int .i64 k), (7, .int .i64 (timeT lay (lx x.es i).l k))]) (fun _ => []) 0 [0, 1, 4, 5, 6, 8, 14, 15, 16, 30, 31] h2.1 ⟨fun g => rfl, fun g => by simp [timeT, beginT], trivial⟩ sb (fun k hk => ?_)
    refine go ?_
    refine go_if (fun h => ?_) (fun h => ?_)
    · have h5 : k + 1 < (lx x.es i).l.length := by omega
      have h6 := hit _ hEm _ (lx_mem (l := (lx x.es i).l) h5)
      have h7 := timeT_bd (lay := lay) (fun v hv => (ho.item _ hEm v hv).2.2) k (by omega)
      have h9 : beginT lay (lx x.es i).l = lx lay (lx (lx x.es i).l 0).item.toNat := rfl
      have h10 := hlay _ (lx_mem (l := lay) (i := (lx (lx x.es i).l (k + 1)).item.toNat) (by omega))
      refine go ?_
      refine GoL.a (fun b1 => ?_)
      refine go ?_
      refine go_again (k + 1) ?_ ?_ ?_ sb
      · omega
      · omega
      · simp [AgreeL, At, timeT, stepT]
    · have hk2 : k = (lx x.es i).l.length - 1 := by omega
      have h7 := timeT_bd (lay := lay) (fun v hv => (ho.item _ hEm v hv).2.2) k (by omega)
      have h9 : beginT lay (lx x.es i).l = lx lay (lx (lx x.es i).l 0).item.toNat := rfl
      have h11 := hcb i hi
      have h12 := hcb (i + 1) (by omega)
      have HP := hid (show timeT lay (lx x.es i).l k - lx lay (lx (lx x.es i).l 0).item.toNat = pathT lay (lx x.es i).l by rw [hk2]; rfl)
      clear hk2
      have HC := hid (show costT (fun i => (lx x.t.ps i).cnt) (fun i => (lx x.es i).l) lay (i + 1) = costT (fun i => (lx x.t.ps i).cnt) (fun i => (lx x.es i).l) lay i + (lx x.t.ps i).cnt * (timeT lay (lx x.es i).l k - lx lay (lx (lx x.es i).l 0).item.toNat) by rw [HP.out]; rfl)
      have hpb := pathT_bd (lay := lay) (fun v hv => (ho.item _ hEm v hv).2.2) ⟨h2.1, h2.2.1⟩
      have h14 : 0 ≤ (lx x.t.ps i).cnt * (timeT lay (lx x.es i).l k - lx lay (lx (lx x.es i).l 0).item.toNat) ∧ (lx x.t.ps i).cnt * (timeT lay (lx x.es i).l k - lx lay (lx (lx x.es i).l 0).item.toNat) ≤ 1000 * 3000 := by
        rw [HP.out]; exact ⟨Int.mul_nonneg (by omega) hpb.1, Int.mul_le_mul hcnt.2 hpb.2 hpb.1 (by omega)⟩
      refine go ?_
      refine go_again (i + 1) ?_ ?_ ?_ sb
      · omega
      · omega
      · have := HC.out
        simp [AgreeL, At, this]
  · refine go ?_
    refine ev1 ?_
    rw [PD.cost]; congr 2; omega
end

section
set_option linter.all false
open Go.RowKit

section
variable {w0 : World} {Bs : List Nat} {P : Program} {c : Code} {n : Nat} {ds : List Deferred} {L : List (Nat × Value)} {H : List En} {Q : Exit → Act → World → Prop}
/-- all ways of a piece of code lead to one state -/
theorem go_join2 (L' : List (Nat × Value)) (H' : List En) (h1 : GoC w0 Bs P c n ds L H (Exit.then (fun a w => ∃ g, a = mkA n (tab L' g) ds ∧ Mem w0 Bs H' w) Q)) (h2 : GoX w0 Bs .normal n ds L' H' Q) : GoC w0 Bs P c n ds L H Q := .mk fun g w hw =>
  wp_mono (h1.go g w hw) fun e a w' h => by
    cases e with
    | normal => obtain ⟨g', rfl, hm⟩ := h; exact h2.go g' w' hm
    | _ => exact h
end
/-- numbers in a block -/
def ic (l : List Int) : List Value := l.map (.int .i64)
@[simp] theorem ic_len (l : List Int) : (ic l).length = l.length := by simp [ic]
theorem ic_at {l : List Int} {i : Nat} (h : i < l.length) : (ic l)[i]? = some (.int .i64 (lx l i)) := by
  simp [ic, List.getElem?_map, lx_some h]
theorem ic_set (l : List Int) (z : Int) : ∀ i, (ic l).set i (.int .i64 z) = ic (l.set i z) := by
  intro i; simp [ic]
theorem LoadV.at {P : Program} {T : TypeId} {l : List Value} {i : Nat} {v : Value} (hl : l[i]? = some v) (h : ∀ w (R : Result Bool → Prop), R (.ok false w) → R ((isAgg T).run P w) := by intro w R hR; go_simp; exact hR) : LoadV P T (l.drop i) v := by
  obtain ⟨hi, rfl⟩ := List.getElem?_eq_some_iff.1 hl
  rw [List.drop_eq_getElem_cons hi]
  exact LoadV.one h
section
variable {w0 : World} {Bs : List Nat} {P : Program} {n : Nat} {L : List (Nat × Value)} {H H' : List En} {ops : Array Oper} {K : (Nat → Value) → World → Prop} {os : List Oper} {u v : Value} {d : Nat} {op : Op} {T ty : TypeId} {pos : String} {af : Array Edge} {gd : Option (Nat × Bool)} {x y : Operand}
/-- the address of a cell of an array -/
theorem Ex.ai {b i len : Nat} {k : IntKind} {z : Int} {e : TypeId} (hx : ∀ g, evF n (tab L g) x = .pointer (some ⟨b, 0, none⟩) := by intro g; simp only [evF_tmp, tab_cons, Nat.reduceLT, Nat.reduceEqDiff, ↓reduceIte]; (try rfl))
    (hy : ∀ g, evF n (tab L g) y = .int k z := by intro g; simp only [evF_tmp, evF_const, tab_cons, Nat.reduceLT, Nat.reduceEqDiff, ↓reduceIte]; (try rfl))
    (hi : z.toNat = i := by (try simp only [Int.toNat_natCast, Int.reduceToNat]); rfl) (hb : 0 ≤ z ∧ z < (len : Int) := by omega)
    (ht : ∀ w (R : Result TypeDesc → Prop), R (.ok (.array len e) w) → R ((underlying T).run P w) := by intro w R hR; go_simp; exact hR) (hs : ∀ w (R : Result Nat → Prop), R (.ok 1 w) → R ((sizeOf e).run P w) := by intro w R hR; go_simp; exact hR) : Ex w0 Bs P n ⟨some d, .indexAddr T x y, ty, pos, af, gd⟩ L H (.pointer (some ⟨b, i, none⟩)) := fun g w hw => by
  subst hi
  simp only [execOp, Instr.indexAt, Instr.sureAddr, asIntOf, hx g, hy g, Sem.run_bind, Sem.run_pure, Result.andThen_ok, ht w (fun r => r = _) rfl, hs w (fun r => r = _) rfl, hb, and_self, if_true, add_none, Nat.zero_add, Nat.mul_one]
/-- a load out of a block of numbers -/
theorem Ex.la {b i : Nat} {l : List Int} (hc : ∀ w, Mem w0 Bs H w → Cells w b (ic l)) (hi : i < l.length) (hx : ∀ g, evF n (tab L g) x = .pointer (some ⟨b, i, none⟩) := by intro g; simp only [evF_tmp, tab_cons, Nat.reduceLT, Nat.reduceEqDiff, ↓reduceIte]; (try rfl))
    (h : ∀ w (R : Result Bool → Prop), R (.ok false w) → R ((isAgg T).run P w) := by intro w R hR; go_simp; exact hR) : Ex w0 Bs P n ⟨some d, .load T x, ty, pos, af, gd⟩ L H (.int .i64 (lx l i)) :=
  Ex.ld hx hc (LoadV.at (ic_at hi) h)
/-- a store into a block of numbers -/
theorem GoL.sa {b i : Nat} {l : List Int} {z : Int} (p : Rep (.cells b (ic l)) (.cells b (ic (l.set i z))) H H') (hi : i < l.length) (hr : GoL w0 Bs P ops n K os L H')
    (hx : ∀ g, evF n (tab L g) x = .pointer (some ⟨b, i, none⟩) := by intro g; simp only [evF_tmp, tab_cons, Nat.reduceLT, Nat.reduceEqDiff, ↓reduceIte]; (try rfl))
    (hy : ∀ g, evF n (tab L g) y = .int .i64 z := by intro g; simp only [evF_tmp, evF_const, tab_cons, Nat.reduceLT, Nat.reduceEqDiff, ↓reduceIte]; (try rfl))
    (hs : ∀ w (R : Result Nat → Prop), R (.ok 1 w) → R ((sizeOf T).run P w) := by intro w R hR; go_simp; exact hR) : GoL w0 Bs P ops n K (⟨none, .store T x y, ty, pos, af, none⟩ :: os) L H :=
  GoL.st ⟨b, i, ic l, _, [.int .i64 z], 1, .int .i64 z, H', hx, hy, rfl, hs, rfl, (by simpa only [setLs, ic_set] using p), rfl, (by simp [Value.oneCell']), (by simp; omega), hr⟩
end
end

section
set_option linter.all false
set_option pp.maxSteps 100000
set_option maxRecDepth 100000
set_option maxHeartbeats 4000000
open Go.RowKit

/-- the place of the least of the first k + .. (the first one) -/
def leastK (l : List Int) : Nat → Nat
  | 0 => 0
  | k + 1 => if lx l k < lx l (leastK l k) then k else leastK l k
theorem leastK_le (l : List Int) : ∀ k, leastK l k ≤ k
  | 0 => Nat.le_refl _
  | k + 1 => by have := leastK_le l k; simp only [leastK]; split <;> omega
theorem leastK_lt (l : List Int) {k : Nat} (h : 0 < k) : leastK l k < k := by
  cases k with
  | zero => omega
  | succ k => have := leastK_le l k; simp only [leastK]; split <;> omega
theorem least_v (l : List Int) (a : Option Addr) (c : Nat) (w : World) (hl : Rd icell 1 w a l) (hn : l.length ≤ 1000) :
    Calls Tryz.prog 63 #[.slice a l.length c] w (fun e w' => e = .returned (.int .i64 (leastK l l.length)) ∧ Below w.heap.size w w') := by
  refine go_in Tryz.func63 rfl Tryz.ntmps63 [] [] (Mem.start _) ?_
  refine go ?_
  refine go_loop (X := Nat) (fun k => k ≤ l.length) (fun k => l.length - k) (fun k => [(6, .int .i64 k), (2, .int .i64 (leastK l k))]) (fun _ => []) 0 [0, 5] (Nat.zero_le _) ⟨fun g => rfl, fun g => rfl, trivial⟩ sb (fun k hk => ?_)
  refine go ?_
  refine go_if (fun h => ?_) (fun h => ?_)
  · have h1 : k < l.length := by omega
    have h2 := leastK_le l k
    refine go ?_
    refine go_join2 [(2, .int .i64 (leastK l (k + 1))), (6, .int .i64 k), (0, .slice a l.length c), (5, .int .i64 l.length)] [] ?_ ?_
    · refine go_if (fun h3 => ?_) (fun h3 => ?_)
      · refine go ?_
        have e : leastK l (k + 1) = k := if_pos h3
        exact xj_n (by simp [AgreeL, At, e]) sb
      · refine go ?_
        have e : leastK l (k + 1) = leastK l k := if_neg (by omega)
        exact xj_n (by simp [AgreeL, At, e]) sb
    refine go ?_
    exact go_again (k + 1) (by omega) (by omega) ⟨fun g => rfl, fun g => rfl, fun g => rfl, fun g => rfl, trivial⟩ sb
  · refine go ?_
    refine ev1 ?_
    obtain rfl : k = l.length := by omega
    rfl
/-- the least free address of a place -/
def freeV (lay : List Int) (p : Int) : Nat → Int
  | 0 => p
  | f + 1 => if p ∈ lay then freeV lay (p + 16) f else p
theorem freeV_eq {lay : List Int} : ∀ (k f : Nat) (p : Int), k ≤ f → (∀ j, j < k → p + 16 * (j : Int) ∈ lay) → ¬ p + 16 * (k : Int) ∈ lay → freeV lay p f = p + 16 * (k : Int)
  | 0, f, p, _, _, h => by
    have h' : ¬ p ∈ lay := by simpa using h
    cases f with
    | zero => simp [freeV]
    | succ f => simp [freeV, h']
  | k + 1, 0, _, hk, _, _ => by omega
  | k + 1, f + 1, p, hk, hj, h => by
    have h0 : p ∈ lay := by simpa using hj 0 (by omega)
    have e : ∀ j : Nat, p + 16 + 16 * (j : Int) = p + 16 * ((j + 1 : Nat) : Int) := fun j => by push_cast; omega
    rw [freeV, if_pos h0, freeV_eq k f (p + 16) (by omega) (fun j hj' => by rw [e]; exact hj (j + 1) (by omega)) (by rw [e]; exact h), e]
def freeP (lay : List Int) (lines : Int) (p : Nat) : Int := if lines * 16 ≤ freeV lay p 8 then -1 else freeV lay p 8
def freeL (lay : List Int) (lines : Int) : List Int := (List.range 16).map (freeP lay lines)
def freeA (lay : List Int) (lines : Int) (p : Nat) : List Int := (List.range 16).map fun j => if j < p then freeP lay lines j else 0
theorem freeA_len (lay : List Int) (lines : Int) (p : Nat) : (freeA lay lines p).length = 16 := by simp [freeA]
theorem freeA_next (lay : List Int) (lines : Int) {p : Nat} {v : Int} (hv : freeP lay lines p = v) : (freeA lay lines p).set p v = freeA lay lines (p + 1) := by
  subst hv
  apply List.ext_getElem?
  intro j
  rw [List.getElem?_set]
  simp only [freeA, List.getElem?_map, List.length_map, List.length_range]
  by_cases h : p = j
  · subst h
    by_cases h2 : p < 16
    · simp [h2]
    · simp [h2]
  · rw [if_neg h]
    by_cases h2 : j < 16
    · simp only [List.getElem?_range h2, Option.map_some]
      by_cases h3 : j < p
      · rw [if_pos h3, if_pos (by omega)]
      · rw [if_neg h3, if_neg (by omega)]
    · simp [h2]
theorem freeA_end (lay : List Int) (lines : Int) : freeA lay lines 16 = freeL lay lines := by
  unfold freeA freeL
  apply List.map_congr_left
  intro j hj
  rw [if_pos (List.mem_range.1 hj)]
theorem lx_set {l : List Int} {i : Nat} {v : Int} (h : i < l.length) : lx (l.set i v) i = v := by
  rw [lx_eq (by simpa using h)]; simp
theorem free_v (x : PD) (b : Nat) (lay : List Int) (al : Option Addr) (cl : Nat) (w : World) (hx : x.At b w) (ho : x.Ok) (hl : Rd icell 1 w al lay) (hn : lay.length ≤ 1000) (h7 : ∀ a ∈ lay, a ≤ 127) :
    Calls Tryz.prog 70 #[.pointer (some ⟨b, 0, none⟩), .slice al lay.length cl] w (fun e w' => e = .returned (.agg (ic (freeL lay x.t.lines)).toArray) ∧ Below w.heap.size w w') := by
  have hc := hx.c
  have h1 := ho.l1
  refine go_in Tryz.func70 rfl Tryz.ntmps70 [] [] (Mem.start _) ?_
  refine go ?_
  refine GoL.a (fun b4 => ?_)
  refine go ?_
  refine go_loop (X := Nat) (fun p => p ≤ 16) (fun p => 16 - p) (fun p => [(6, .int .i64 p)]) (fun p => [.cells b4 (ic (freeA lay x.t.lines p))]) 0 [0, 1, 4] (by omega) ⟨fun g => rfl, trivial⟩ sb (fun p hp => ?_)
  refine go ?_
  refine go_if (fun h => ?_) (fun h => ?_)
  · have hp1 : p < 16 := by omega
    have hln := freeA_len lay x.t.lines p
    refine go ?_
    refine GoL.sa (i := p) (l := freeA lay x.t.lines p) (z := p) rp (by omega) ?_
    refine go ?_
    have HS := hid (show ∀ v : Int, ((freeA lay x.t.lines p).set p v).length = 16 from fun v => by rw [List.length_set]; exact hln)
    clear hln
    refine go_loop (X := Nat) (fun k => k ≤ 8 ∧ ∀ j, j < k → (p : Int) + 16 * (j : Int) ∈ lay) (fun k => 8 - k) (fun k => []) (fun k => [.cells b4 (ic ((freeA lay x.t.lines p).set p ((p : Int) + 16 * (k : Int))))]) 0 [0, 1, 4, 5, 6] ⟨by omega, fun j hj => by omega⟩ trivial (by simp only [Int.mul_zero, Int.ofNat_zero, Int.add_zero, Int.natCast_zero]; exact sb) (fun k hk => ?_)
    refine go ?_
    refine GoL.q ⟨_, Ex.la (l := (freeA lay x.t.lines p).set p ((p : Int) + 16 * (k : Int))) (i := p) (fun w hw => hw.cells pk) (by rw [HS.out]; exact hp1), ?_⟩
    refine go ?_
    rw [lx_set (by rw [freeA_len]; exact hp1)]
    refine GoL.cv (fun w' hw => contains_v _ lay al cl w' (hw.old hl) (by omega)) ?_
    refine go ?_
    refine go_if (fun h3 => ?_) (fun h3 => ?_)
    · have h4 := h7 _ h3
      refine go ?_
      refine GoL.q ⟨_, Ex.la (l := (freeA lay x.t.lines p).set p ((p : Int) + 16 * (k : Int))) (i := p) (fun w hw => hw.cells pk) (by rw [HS.out]; exact hp1), ?_⟩
      rw [lx_set (by rw [freeA_len]; exact hp1)]
      refine go ?_
      refine GoL.sa (i := p) (l := (freeA lay x.t.lines p).set p ((p : Int) + 16 * (k : Int))) (z := (p : Int) + 16 * ((k + 1 : Nat) : Int)) rp (by rw [HS.out]; exact hp1) ?_ (hy := by intro g; simp only [evF_tmp, evF_const, tab_cons, Nat.reduceLT, Nat.reduceEqDiff, ↓reduceIte]; rw [show (p : Int) + 16 * (k : Int) + 16 = (p : Int) + 16 * ((k + 1 : Nat) : Int) by omega])
      rw [List.set_set]
      refine go ?_
      refine go_again (k + 1) ⟨by omega, fun j hj => ?_⟩ (by omega) ⟨fun g => rfl, fun g => rfl, fun g => rfl, fun g => rfl, fun g => rfl, trivial⟩ sb
      rcases Nat.lt_or_ge j k with h9 | h9
      · exact hk.2 j h9
      · obtain rfl : j = k := by omega
        exact h3
    · have hv := freeV_eq k 8 p hk.1 hk.2 h3
      refine go ?_
      refine D.q ⟨_, fun X F => Ex.la (l := (freeA lay x.t.lines p).set p ((p : Int) + 16 * (k : Int))) (i := p) (fun w hw => hw.cells pk) (by rw [HS.out]; exact hp1), ?_⟩
      rw [lx_set (by rw [freeA_len]; exact hp1)]
      refine go ?_
      refine go_join2 [(6, .int .i64 p), (0, .pointer (some ⟨b, 0, none⟩)), (1, .slice al lay.length cl), (4, .pointer (some ⟨b4, 0, none⟩))] [.cells b4 (ic (freeA lay x.t.lines (p + 1)))] ?_ ?_
      · refine go_if (fun h5 => ?_) (fun h5 => ?_)
        · refine go ?_
          refine GoL.sa (i := p) (l := (freeA lay x.t.lines p).set p ((p : Int) + 16 * (k : Int))) (z := -1) rp (by rw [HS.out]; exact hp1) ?_
          rw [List.set_set, freeA_next lay x.t.lines (by rw [freeP, hv, if_pos h5])]
          refine go ?_
          exact xj_n ⟨fun g => rfl, fun g => rfl, fun g => rfl, fun g => rfl, trivial⟩ sb
        · refine go ?_
          rw [freeA_next lay x.t.lines (by rw [freeP, hv, if_neg (by omega)])]
          exact xj_n ⟨fun g => rfl, fun g => rfl, fun g => rfl, fun g => rfl, trivial⟩ sb
      refine go ?_
      exact go_again (p + 1) (by omega) (by omega) ⟨fun g => rfl, fun g => rfl, fun g => rfl, fun g => rfl, trivial⟩ sb
  · obtain rfl : p = 16 := by omega
    rw [freeA_end]
    have e : ic (freeL lay x.t.lines) = [.int .i64 (freeP lay x.t.lines 0), .int .i64 (freeP lay x.t.lines 1), .int .i64 (freeP lay x.t.lines 2), .int .i64 (freeP lay x.t.lines 3), .int .i64 (freeP lay x.t.lines 4), .int .i64 (freeP lay x.t.lines 5), .int .i64 (freeP lay x.t.lines 6), .int .i64 (freeP lay x.t.lines 7),
      .int .i64 (freeP lay x.t.lines 8), .int .i64 (freeP lay x.t.lines 9), .int .i64 (freeP lay x.t.lines 10), .int .i64 (freeP lay x.t.lines 11), .int .i64 (freeP lay x.t.lines 12), .int .i64 (freeP lay x.t.lines 13), .int .i64 (freeP lay x.t.lines 14), .int .i64 (freeP lay x.t.lines 15)] := rfl
    rw [e]
    refine go ?_
    refine end_c ?_
    exact fin_v rfl
end

section
set_option linter.all false
set_option pp.maxSteps 100000
set_option maxRecDepth 100000
set_option maxHeartbeats 4000000
open Go.RowKit

theorem elI : ElemT Tryz.prog 26 3 1 8 := ElemT.mk' (z := .int .i64 0) Tryz.underlying26 (by kernel_rfl) rfl
abbrev slV (l : List Int) : Option Addr × Nat → Value := fun p => .slice p.1 l.length p.2
abbrev slE (l : List Int) : Option Addr × Nat → List En := fun p => [.own icell 1 3 (.slice p.1 l.length p.2) l]
theorem icell_one (x : Int) : ∀ u ∈ icell x, u.oneCell' = true := by intro u hu; rcases List.mem_cons.1 hu with rfl | h; rfl; cases h
theorem clone_v (l : List Int) (ab ao c : Nat) (w : World) (hl : Rd icell 1 w (some ⟨ab, ao, none⟩) l) (hn : l.length ≤ 1000) :
    Calls Tryz.prog 69 #[.slice (some ⟨ab, ao, none⟩) l.length c] w (Ret (slV l) (slE l) w) := by
  refine go_in Tryz.func69 rfl Tryz.ntmps69 [] [] (Mem.start _) ?_
  refine go ?_
  refine GoL.sl (Ef.lit (f := icell) (m := 1) (e := 3) [] (fun _ => rfl) rfl) (fun a0 c0 => ?_)
  refine go ?_
  refine GoL.sl (Ef.app (l := []) (l2 := l) elI (fun _ => rfl) icell_one (by simp only [List.length_nil]; omega) pk (fun w hw => hw.old hl)) (fun a1 c1 => ?_)
  rw [List.nil_append]
  refine go ?_
  refine end1 ?_
  exact fun w' hw => ⟨(a1, c1), rfl, hw.done sb⟩
end

section
set_option linter.all false
open Go.RowKit

theorem panic_in {P : Program} {n m : Nat} {o : Oper} {os : List Oper} {ops : Array Oper} {s : Nat → Value} {w w' : World} {Q : Exit → Act → World → Prop} {ds : List Deferred} {v : Value}
    (hr : (execOp (evF n s) o).run P w = .halt (.panic v) w') (h : Q (.panic [{ v, recovered := false }]) (mkA n s ds) w') (hg : o.guard = none := by rfl) (hd : ∀ c, o.op ≠ .defer c := by intro c h; cases h) : wpListIn (Fw none) m P ops Q (o :: os) (mkA n s ds) w := by
  unfold wpListIn
  rw [if_pos (by simp [Region.wanted, hg])]
  refine ⟨fun _ _ => trivial, ?_⟩
  show o.uponIn (Fw none) m P (mkA n s ds) _ Q ((o.semAt none (mkA n s ds).eval).run P w)
  rw [semAt_any hd, mkA_eval, hr]
  exact h
theorem defer_in {P : Program} {n m : Nat} {o : Oper} {os : List Oper} {ops : Array Oper} {s : Nat → Value} {w w' : World} {Q : Exit → Act → World → Prop} {ds : List Deferred} {d : Deferred}
    (hr : (o.semAt none (evF n s)).run P w = .ok (.defer d) w') (h : wpListIn (Fw none) m P ops Q os (mkA n s (d :: ds)) w') (hg : o.guard = none := by rfl) (hdst : o.dst = none := by rfl) : wpListIn (Fw none) m P ops Q (o :: os) (mkA n s ds) w := by
  unfold wpListIn
  rw [if_pos (by simp [Region.wanted, hg])]
  refine ⟨fun _ _ => trivial, ?_⟩
  show o.uponIn (Fw none) m P (mkA n s ds) _ Q ((o.semAt none (mkA n s ds).eval).run P w)
  rw [mkA_eval, hr, Oper.uponIn_defer, hdst]
  exact h

/-- a range over a function of ours that returns, or panics -/
theorem wp_range_p {P : Program} {α : Type} {g : Operand} {ps : Array Tmp} {assign body : Code} {Q : Exit → Act → World → Prop} {a : Act} {w : World} {gf : Nat} {lb : Array Value} (enc : α → Value)
    (hg : a.eval g = .func (.func gf) #[] lb) (eg : ∀ args w, (callFunc gf args).run P w = .ok (.enter gf args) w) (hps : ps.size = 1)
    (J : List α → World → Prop) (M : List α → α → World → Prop) (Fin : List α → Prop) (Dn : List PanicEntry → World → Prop)
    (hJ : ∀ pre W r r', J pre W → LoopAt W w.heap.size r → J pre (W.putObj (w.heap.size + 1) (.loop r')))
    (h0 : ∀ r, J [] ((w.alloc (.deferred (some []))).alloc (.loop r)))
    (hiter : ∀ (r : Loop) (W : World), J [] W → LoopAt W w.heap.size r →
      (∀ pre x W1, M pre x W1 → LoopAt W1 w.heap.size r → YieldAt Fence.wide 0 P (w.heap.size + 1) #[enc x] W1 fun e W' => e = .returned (.bool true) ∧ J (pre ++ [x]) W' ∧ LoopAt W' w.heap.size r) →
      Calls P gf (#[.func (.yield (w.heap.size + 1)) #[] #[]] ++ lb) W fun e W' => ((∃ v, e = .returned v) ∧ ∃ xs, J xs W' ∧ Fin xs ∧ LoopAt W' w.heap.size r) ∨ (∃ ch, e = .panicked ch ∧ Dn ch W' ∧ LoopAt W' w.heap.size r))
    (hround : ∀ pre x W r, M pre x W → LoopAt W w.heap.size r →
      assign.wpIn (Fence.wide.inRound (w.heap.size + 1)) 0 P (Exit.then (fun a₁ W₁ => LoopAt W₁ w.heap.size r ∧ ∀ r', body.wpIn (Fence.wide.inRound (w.heap.size + 1)) 0 P (fun e _ W' => e = .normal ∧ J (pre ++ [x]) W' ∧ LoopAt W' w.heap.size r') a₁ (W₁.putObj (w.heap.size + 1) (.loop r'))) (fun _ _ _ => False))
        { tmps := (ps.zip #[enc x]).foldl (fun t (p, v) => t.setIfInBounds p v) a.tmps, defers := [] } W)
    (hdone : ∀ xs W, J xs W → Fin xs → W.heap[w.heap.size]? = some (.deferred (some [])) → Q .normal { a with defers := { target := .collected w.heap.size, args := #[] } :: a.defers } W)
    (hdie : ∀ ch W, Dn ch W → W.heap[w.heap.size]? = some (.deferred (some [])) → Q (.panic ch) { a with defers := { target := .collected w.heap.size, args := #[] } :: a.defers } W) :
    (Code.rangeFunc g ps assign body).wp P Q a w := by
  refine (wpIn_wide (n := 0)).1 (wpIn_rangeFunc ?_)
  intro fn hfn
  let rec0 : Loop := { state := .ready, pending := none, fn := fn, tmps := a.tmps, params := ps, assign := assign, body := body, defers := w.heap.size }
  let W1 : World := (w.alloc (.deferred (some []))).alloc (.loop rec0)
  have hL1 : LoopAt W1 w.heap.size rec0 := by
    refine ⟨?_, ?_⟩
    · have := World.alloc_heap_new (w.alloc (.deferred (some []))) (.loop rec0)
      rwa [World.size_alloc] at this
    · exact (Below.heap_alloc _ _ _ (by simp)).trans (World.alloc_heap_new w _)
  refine ⟨w.heap.size + 1, [{ target := .collected w.heap.size, args := #[] }], W1, { target := .fn (.func gf) lb, args := #[.func (.yield (w.heap.size + 1)) #[] #[]] }, W1, gf,
    #[.func (.yield (w.heap.size + 1)) #[] #[]] ++ lb, W1, run_enterLoop_outer _ _ _ _ _, ?_, fun _ _ => trivial, ?_, fun h => (by simp [Fence.wide] at h), ?_⟩
  · simp only [resolve, hg]
    simp [go_sem]
  · simp [invoke, go_sem, eg]
  · refine callsIn_wide.2 ((hiter rec0 W1 (h0 rec0) hL1 ?_).mono ?_)
    · intro pre x W hm hl
      refine ⟨fn, _, assign, body, run_yield (P := P) (args := #[enc x]) hl.1 (by show _ = ps.size; rw [hps]; rfl), roundIn_of_wpIn trivial ?_⟩
      refine wpIn_mono (hround pre x W rec0 hm hl) ?_
      intro e a1 W2 h
      cases e with
      | normal =>
        obtain ⟨hl2, hb⟩ := h
        refine ⟨_, run_beginRound hl2.1 rfl, wpIn_mono (hb _) ?_⟩
        rintro e a3 W3 ⟨rfl, hj3, hl3⟩
        exact ⟨_, _, run_endRound none hl3.1, rfl, hJ _ _ _ _ hj3 hl3, hl3.put⟩
      | exit id => exact h
      | goto t => exact h
      | ret => exact h
      | panic ch => exact h
      | outgrown => exact h
    · rintro e W2 (⟨⟨v, rfl⟩, xs, hj, hf, hl⟩ | ⟨ch, rfl, hd, hl⟩)
      · exact ⟨none, _, run_endLoop (P := P) hl.1 (by show LoopState.ready ≠ LoopState.busy; decide), hdone xs _ (hJ _ _ _ _ hj hl) hf ((World.putObj_heap_other (by omega)).trans hl.2)⟩
      · exact hdie ch W2 hd hl.2

/- inside a round: a region that draws its order -/
section
variable {P : Program} {n m : Nat} {ρ : Option Nat} {ops : Array Oper} {Q : Exit → Act → World → Prop}
theorem opwp_in {o : Oper} {a : Act} {w : World} {K : Act → World → Prop} (hd : ∀ c, o.op ≠ .defer c) (h : o.wp P a w K Q) : o.wpIn (Fw ρ) m P a w K Q := by
  refine ⟨fun _ _ => trivial, ?_⟩
  show o.uponIn (Fw ρ) m P a K Q ((o.semAt ρ a.eval).run P w)
  rw [semAt_any hd]
  unfold Oper.wp at h
  generalize (execOp a.eval o).run P w = r at *
  cases r with
  | ok nx w' =>
    cases nx with
    | value v => simp only [Oper.upon] at h; rw [Oper.uponIn_value]; exact h
    | skip => simp only [Oper.upon] at h; rw [Oper.uponIn_skip]; exact h
    | enter f args =>
      simp only [Oper.upon] at h
      rw [Oper.uponIn_enter]
      exact ⟨fun h => (by simp [Fw, Fence.wide] at h), callsIn_Fw h⟩
    | row r args =>
      simp only [Oper.upon] at h
      refine ⟨fun h => (by simp [Fw, Fence.wide] at h), ?_⟩
      intro c cs _
      obtain ⟨v, w'', hk, hs⟩ := h c cs
      exact ⟨v, w'', hk, stepsIn_wide.2 hs⟩
    | defer d => simp only [Oper.upon] at h; rw [Oper.uponIn_defer]; exact h
    | _ => exact (h : False).elim
  | halt x w' =>
    cases x with
    | panic v => exact h
    | _ => exact (h : False).elim
theorem any_in (hd : ∀ (i : Nat) (o : Oper), ops[i]? = some o → ∀ c, o.op ≠ .defer c) (hQ : ¬ LetsOut Q) : ∀ (fuel : Nat) (listed : Array Bool) (a : Act) (w : World), wpAny P .any ops Q fuel listed a w → wpAnyIn (Fw ρ) m P .any ops Q fuel listed a w
  | 0, _, _, _, h => h
  | fuel + 1, listed, a, w, h => by
    refine ⟨h.1, fun i hi => ?_⟩
    have h1 := h.2 i hi
    unfold wpOp at h1
    unfold wpOpIn
    cases ho : ops[i]? with
    | none => rw [ho] at h1; exact any_in hd hQ fuel _ a w h1
    | some o =>
      rw [ho] at h1
      simp only at h1 ⊢
      split
      · rename_i hw
        rw [if_pos hw] at h1
        rcases h1 with h1 | ⟨_, h2⟩
        · exact opwp_in (hd i o ho) (Oper.wp_mono (fun a' w' h' => any_in hd hQ fuel _ a' w' h') h1)
        · exact absurd h2 hQ
      · rename_i hw
        rw [if_neg hw] at h1
        exact ⟨fun _ _ => trivial, any_in hd hQ fuel _ _ w h1⟩
end
section
variable {ds : List Deferred}
theorem regionI_any {P : Program} {l : List Oper} {n : Nat} {Q : Exit → Act → World → Prop} {s : Nat → Value} {w : World} (J : (Nat → Bool) → (Nat → Value) → World → Prop)
    (hm : P.follows .mixedOrders = true) (hb : backB l.toArray = true) (hd : dstB l.toArray (List.range n) = true)
    (h0 : J (fun _ => false) (fun d => if d < n then s d else undef) w.drew)
    (he : ∀ s w, J (fun j => decide (j < l.length)) s w → Q .normal (mkA n s ds) w)
    (hs : invF P l.toArray n J 0 l) : wpAny P .any l.toArray Q l.toArray.size (Array.replicate l.toArray.size false) (mkA n s ds) w.drew := by
  have hset : ∀ s', setAll (mkA n s ds) (List.range n) s' = mkA n s' ds := by
    intro s'
    apply Act.ext'
    · apply Array.ext_getElem?
      intro k
      (try simp only [mkA_tmps])
      rw [setAll_get]; show (if k ∈ List.range n ∧ k < (tmA n s).size then some (s' k) else (tmA n s)[k]?) = (tmA n s')[k]?; rw [mkA_get, mkA_get]
      have hsz : (tmA n s).size = n := by simp [tmA]
      rw [hsz]
      by_cases hk : k < n
      · simp [hk]
      · simp [hk]
    · rw [setAll_defers]; rfl
  have hs' := invF_steps (s0 := s) (ds := ds) (Q := Q) (P := P) l 0 ?_ hs
  · have e0 : (fun d => (tmA n s).getD d undef) = fun d => if d < n then s d else undef := by
      funext d
      rw [Array.getD_eq_getD_getElem?, mkA_get]; split <;> rfl
    have := inv_any (P := P) (ops := l.toArray) (Q := Q) (a0 := mkA n s ds) (ds := List.range n) (J := J) hb hd (by simpa using hs') (by
      intro s' w' hj; rw [hset]; exact he s' w' (by simpa using hj)) l.toArray.size (Array.replicate l.toArray.size false) (fun d => (tmA n s).getD d undef) w.drew (by simp)
      (by
        have : (fun j => (Array.replicate l.toArray.size false).getD j false) = fun _ => false := by
          funext j
          simp only [Array.getD_eq_getD_getElem?, Array.getElem?_replicate]
          split <;> rfl
        rw [this, e0]; exact h0)
      (.inr (Nat.le_trans List.countP_le_length (by simp)))
    have hself : setAll (mkA n s ds) (List.range n) (fun d => (tmA n s).getD d undef) = mkA n s ds := setAll_self (mkA n s ds) (List.range n)
    rw [hself] at this
    exact this
  · intro o ho d hdst
    unfold dstB at hd
    rw [Array.all_eq_true] at hd
    obtain ⟨i, hi, rfl⟩ := List.mem_iff_getElem.1 ho
    have := hd i (by simpa using hi)
    simp only [List.getElem_toArray, hdst] at this
    simpa using this

theorem regionI_FI {P : Program} {id m : Nat} {ρ : Option Nat} {l : List Oper} {n : Nat} {Q : Exit → Act → World → Prop} {s : Nat → Value} {w : World} (J : (Nat → Bool) → (Nat → Value) → World → Prop) (hq : ¬ LetsOut Q) (hnd : noDefer l = true)
    (hm : P.follows .mixedOrders = true) (hb : backB l.toArray = true) (hd : dstB l.toArray (List.range n) = true)
    (h0 : J (fun _ => false) (fun d => if d < n then s d else undef) w.drew)
    (he : ∀ s w, J (fun j => decide (j < l.length)) s w → Q .normal (mkA n s ds) w)
    (hs : invF P l.toArray n J 0 l) : (Code.region id l.toArray true).wpIn (Fw ρ) m P Q (mkA n s ds) w := by
  refine wpIn_region_any hm (any_in ?_ hq _ _ _ _ (regionI_any J hm hb hd h0 he hs))
  intro i o ho c hc
  unfold noDefer at hnd
  rw [List.all_eq_true] at hnd
  have hmem : o ∈ l := by
    rw [List.getElem?_toArray] at ho
    exact List.mem_of_getElem? ho
  have := hnd o hmem
  rw [hc] at this
  exact absurd this (by simp)
end

/-- a loop whose rounds may add to the deferred calls -/
theorem loop_D {P : Program} {c : Code} {n : Nat} {Q : Exit → Act → World → Prop} (J : Nat → (Nat → Value) → List Deferred → World → Prop) {k0 : Nat} {s0 : Nat → Value} {d0 : List Deferred} {w0 : World} (h0 : J k0 s0 d0 w0)
    (round : ∀ k s d w, J k s d w → c.wp P (Exit.then (fun a' w' => ∃ k' s' d', a' = mkA n s' d' ∧ k' < k ∧ J k' s' d' w') Q) (mkA n s d) w) : (Code.loop c).wp P Q (mkA n s0 d0) w0 := by
  classical
  let p : Act → World → Nat → Prop := fun a w k => ∃ s d, a = mkA n s d ∧ J k s d w
  let μ : Act → World → Nat := fun a w => if h : ∃ k, p a w k then Classical.choose (least_ex h) else 0
  refine wp_loop (fun a w => ∃ k, p a w k) μ ⟨k0, s0, d0, rfl, h0⟩ ?_
  intro a w hI
  have hμ : μ a w = Classical.choose (least_ex hI) := by show (if h : _ then _ else _) = _; rw [dif_pos hI]
  obtain ⟨⟨s, d, rfl, hJ⟩, hmin⟩ := Classical.choose_spec (least_ex hI)
  refine wp_mono (round _ s d w hJ) ?_
  intro e a' w' h
  cases e with
  | normal =>
    obtain ⟨k', s', d', rfl, hlt, hJ'⟩ := h
    have hI' : ∃ k, p (mkA n s' d') w' k := ⟨k', s', d', rfl, hJ'⟩
    refine ⟨hI', ?_⟩
    have hμ' : μ (mkA n s' d') w' = Classical.choose (least_ex hI') := by show (if h : _ then _ else _) = _; rw [dif_pos hI']
    rw [hμ, hμ']
    exact Nat.lt_of_le_of_lt ((Classical.choose_spec (least_ex hI')).2 k' ⟨s', d', rfl, hJ'⟩) hlt
  | exit id => exact h
  | goto l => exact h
  | ret => exact h
  | panic ch => exact h
  | outgrown => exact h

/- the marks of ranges among the deferred calls -/
def marks (Ds : List Nat) (d0 : List Deferred) : List Deferred := Ds.map (fun D => { target := .collected D, args := #[] }) ++ d0
def shut : List Nat → World → World
  | [], w => w
  | D :: Ds, w => shut Ds (w.putObj D (.deferred none))
theorem leave_marks {P : Program} {fn : Func} {tmps : Array Value} {R : Ending → World → Prop} {u : FrameMode} {d0 : List Deferred} (hu : u ≠ .run) : ∀ (Ds : List Nat) (w : World), (∀ D ∈ Ds, w.heap[D]? = some (.deferred (some []))) → Ds.Nodup →
    LeavesInM Fence.wide 0 P fn tmps R d0 u (shut Ds w) → LeavesInM Fence.wide 0 P fn tmps R (marks Ds d0) u w
  | [], _, _, _, h => h
  | D :: Ds, w, hD, hn, h => by
    obtain ⟨hn1, hn2⟩ := List.nodup_cons.1 hn
    refine ⟨hu, .inl ⟨D, _, rfl, run_takeDeferred (hD D (by simp)), leave_marks hu Ds _ ?_ hn2 h⟩⟩
    intro E hE
    have hne : E ≠ D := fun e => hn1 (by rw [← e]; exact hE)
    exact (World.putObj_heap_other hne).trans (hD E (List.mem_cons_of_mem _ hE))
theorem shut_block : ∀ (Ds : List Nat) (w : World) (k : Nat), k ∉ Ds → (shut Ds w).heap[k]? = w.heap[k]?
  | [], _, _, _ => rfl
  | D :: Ds, w, k, h => by
    have h1 : k ≠ D := fun e => h (by simp [e])
    exact (shut_block Ds _ k (fun hm => h (List.mem_cons_of_mem _ hm))).trans (World.putObj_heap_other h1)
theorem shut_size : ∀ (Ds : List Nat) (w : World), (shut Ds w).heap.size = w.heap.size
  | [], _ => rfl
  | D :: Ds, w => (shut_size Ds _).trans (by rw [World.putObj_size])
theorem below_shut {N : Nat} {w0 : World} : ∀ (Ds : List Nat) (w : World), Below N w0 w → (∀ D ∈ Ds, N ≤ D) → Below N w0 (shut Ds w)
  | [], _, h, _ => h
  | D :: Ds, w, h, hD => below_shut Ds _ (bel_put h (hD D (by simp))) (fun E hE => hD E (List.mem_cons_of_mem _ hE))
theorem Cells.shut {w : World} {b : Nat} {l : List Value} (h : Cells w b l) {Ds : List Nat} (hn : b ∉ Ds) : Cells (shut Ds w) b l := h.kept (shut_block Ds w b hn) (by rw [shut_size]; exact Nat.le_refl _)
end


end Go.Proofs.YtigehmghcafblaaGreat
