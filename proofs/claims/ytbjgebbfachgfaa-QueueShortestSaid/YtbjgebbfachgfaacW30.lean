/- the room's work. -/
import Derived.StillTailTactics
import Derived.Deep.CutBlock
import Derived.Test.YtbjgebbfachgfaacJ5
set_option linter.unusedVariables false
set_option linter.unusedSimpArgs false
set_option linter.unusedSectionVars false
set_option linter.all false
namespace Go.Proofs.Ytbjgebbfachgfaa
open Go.RowKit

theorem rend_lem (j : Job) : (j.fin == j.needs) = decide (j.needs ≤ j.claim) := by
  unfold Job.fin; split <;> (rw [Bool.eq_iff_iff]; simp; try omega)

/-- the room at block R, its jobs' states at block g, both made by the call itself (from N on) -/
structure RoomOf (N : Nat) (w0 w : World) (R g : Nat) (W : Work) (q : Qu) (aj af : Option Addr) (cj cf cq : Nat) : Prop where
  c0 : w.cell? ⟨R, 0, none⟩ = some (.int .i64 W.rules.slice)
  c1 : w.cell? ⟨R, 1, none⟩ = some (.int .i64 W.rules.load)
  c2 : w.cell? ⟨R, 2, none⟩ = some (.int .i64 W.rules.dump)
  c3 : w.cell? ⟨R, 3, none⟩ = some (.int .i64 W.rules.patience)
  c4 : w.cell? ⟨R, 4, none⟩ = some (.int .i64 W.rules.rate)
  c5 : w.cell? ⟨R, 5, none⟩ = some (.slice aj W.jobs.length cj)
  c6 : w.cell? ⟨R, 6, none⟩ = some (.slice af W.faults.length cf)
  c7 : w.cell? ⟨R, 7, none⟩ = some (.int .i64 q.now)
  c8 : w.cell? ⟨R, 8, none⟩ = some (.slice (some ⟨g, 0, none⟩) q.jobs.length cq)
  fz : ∀ o, w.frozen? ⟨R, o, none⟩ = false
  lt : R < w.heap.size
  ge : N ≤ R
  hN : N = w0.heap.size
  wk0 : WorkIn w0 W aj af
  bel : Below N w0 w
  glt : g < w.heap.size
  gge : N ≤ g
  gR : g ≠ R
  gz : ∀ o, w.frozen? ⟨g, o, none⟩ = false
  sts : ∀ i x, q.jobs[i]? = some x → ∀ j v, (St.cs x)[j]? = some v → w.cell? ⟨g, i * 5 + j, none⟩ = some v
theorem RoomOf.wk {N : Nat} {w0 w : World} {R g : Nat} {W : Work} {q : Qu} {aj af : Option Addr} {cj cf cq : Nat} (h : RoomOf N w0 w R g W q aj af cj cf cq) : WorkIn w W aj af := by
  have h1 := h.bel
  rw [h.hN] at h1
  exact h.wk0.at h1
theorem RoomOf.rd {N : Nat} {w0 w : World} {R g : Nat} {W : Work} {q : Qu} {aj af : Option Addr} {cj cf cq : Nat} (h : RoomOf N w0 w R g W q aj af cj cf cq) : RdSts w (some ⟨g, 0, none⟩) q.jobs :=
  .inr ⟨g, 0, rfl, h.glt, fun i x hi j v hj => by rw [Nat.zero_add]; exact h.sts i x hi j v hj⟩
theorem RoomOf.in {N : Nat} {w0 w : World} {R g : Nat} {W : Work} {q : Qu} {aj af : Option Addr} {cj cf cq : Nat} (h : RoomOf N w0 w R g W q aj af cj cf cq) : RoomIn w R W q aj af (some ⟨g, 0, none⟩) cj cf cq :=
  ⟨h.c0, h.c1, h.c2, h.c3, h.c4, h.c5, h.c6, h.c7, h.c8, h.fz, h.lt, h.wk, h.rd⟩
theorem RoomOf.at {N : Nat} {w0 w w' : World} {R g : Nat} {W : Work} {q : Qu} {aj af : Option Addr} {cj cf cq : Nat} (h : RoomOf N w0 w R g W q aj af cj cf cq) (hb : Below w.heap.size w w') : RoomOf N w0 w' R g W q aj af cj cf cq := by
  have e : ∀ o, w'.cell? ⟨R, o, none⟩ = w.cell? ⟨R, o, none⟩ := fun o => hb.cell (p := ⟨R, o, none⟩) h.lt
  have hs := h.bel.size
  exact ⟨(e 0).trans h.c0, (e 1).trans h.c1, (e 2).trans h.c2, (e 3).trans h.c3, (e 4).trans h.c4, (e 5).trans h.c5, (e 6).trans h.c6, (e 7).trans h.c7, (e 8).trans h.c8,
    fun o => (hb.frozen (p := ⟨R, o, none⟩) h.lt).trans (h.fz o), Nat.lt_of_lt_of_le h.lt hb.size, h.ge, h.hN, h.wk0, h.bel.trans (hb.mono (by have := h.ge; have := h.lt; omega)), Nat.lt_of_lt_of_le h.glt hb.size, h.gge, h.gR,
    fun o => (hb.frozen (p := ⟨g, o, none⟩) h.glt).trans (h.gz o), fun i x hi j v hj => (hb.cell (p := ⟨g, i * 5 + j, none⟩) h.glt).trans (h.sts i x hi j v hj)⟩

/-- whatever lay in w but the room and its states lies so in w' -/
def Kept (R g : Nat) (w w' : World) : Prop := w.heap.size ≤ w'.heap.size ∧ ∀ b, b < w.heap.size → b ≠ R → b ≠ g → w'.heap[b]? = w.heap[b]?
theorem Kept.refl (R g : Nat) (w : World) : Kept R g w w := ⟨Nat.le_refl _, fun _ _ _ _ => rfl⟩
theorem Kept.trans {R g : Nat} {w1 w2 w3 : World} (h : Kept R g w1 w2) (h' : Kept R g w2 w3) : Kept R g w1 w3 :=
  ⟨Nat.le_trans h.1 h'.1, fun b hb h1 h2 => (h'.2 b (Nat.lt_of_lt_of_le hb h.1) h1 h2).trans (h.2 b hb h1 h2)⟩
theorem Kept.of_below {R g : Nat} {w w' : World} (h : Below w.heap.size w w') : Kept R g w w' := ⟨h.size, fun b hb _ _ => h.block b hb⟩
theorem Kept.set {R g : Nat} {w : World} {X o : Nat} {u : Value} (h : X = R ∨ X = g) : Kept R g w (w.setCell ⟨X, o, none⟩ u) :=
  ⟨by simp, fun b _ h1 h2 => Below.heap_setCell w _ u b (by rcases h with rfl | rfl; exact h1; exact h2)⟩

theorem RoomOf.setFar {N : Nat} {w0 w : World} {R g : Nat} {W : Work} {q : Qu} {aj af : Option Addr} {cj cf cq : Nat} {Y o : Nat} {u : Value} (h : RoomOf N w0 w R g W q aj af cj cf cq) (h1 : Y ≠ R) (h2 : Y ≠ g) (h3 : N ≤ Y) : RoomOf N w0 (w.setCell ⟨Y, o, none⟩ u) R g W q aj af cj cf cq := by
  have e : ∀ o', (w.setCell ⟨Y, o, none⟩ u).cell? ⟨R, o', none⟩ = w.cell? ⟨R, o', none⟩ := fun o' => set_far (.inl fun e => h1 e.symm)
  exact ⟨(e 0).trans h.c0, (e 1).trans h.c1, (e 2).trans h.c2, (e 3).trans h.c3, (e 4).trans h.c4, (e 5).trans h.c5, (e 6).trans h.c6, (e 7).trans h.c7, (e 8).trans h.c8,
    fun o => by rw [World.frozen?_setCell]; exact h.fz o, by simpa using h.lt, h.ge, h.hN, h.wk0, h.bel.setCell h3 _, by simpa using h.glt, h.gge, h.gR,
    fun o => by rw [World.frozen?_setCell]; exact h.gz o, fun i x hi j v hj => (set_far (.inl fun e => h2 e.symm)).trans (h.sts i x hi j v hj)⟩
theorem RoomOf.drew {N : Nat} {w0 w : World} {R g : Nat} {W : Work} {q : Qu} {aj af : Option Addr} {cj cf cq : Nat} (h : RoomOf N w0 w R g W q aj af cj cf cq) : RoomOf N w0 w.drew R g W q aj af cj cf cq := h.at (Below.refl _ _).drew
theorem st_get {s : St} {j : Nat} {v : Value} (h : (St.cs s)[j]? = some v) : (j = 0 ∧ v = .int .i64 s.progress) ∨ (j = 1 ∧ v = .int .i64 s.since) ∨ (j = 2 ∧ v = .int .i64 s.charge) ∨ (j = 3 ∧ v = .int .i64 s.why) ∨ (j = 4 ∧ v = .int .i64 s.ended) := by
  match j, h with
  | 0, h => cases h; exact .inl ⟨rfl, rfl⟩
  | 1, h => cases h; exact .inr (.inl ⟨rfl, rfl⟩)
  | 2, h => cases h; exact .inr (.inr (.inl ⟨rfl, rfl⟩))
  | 3, h => cases h; exact .inr (.inr (.inr (.inl ⟨rfl, rfl⟩)))
  | 4, h => cases h; exact .inr (.inr (.inr (.inr ⟨rfl, rfl⟩)))
  | _ + 5, h => simp [St.cs] at h
def putSt (w : World) (g k : Nat) (s : St) : World :=
  ((((w.setCell ⟨g, k * 5, none⟩ (.int .i64 s.progress)).setCell ⟨g, k * 5 + 1, none⟩ (.int .i64 s.since)).setCell ⟨g, k * 5 + 2, none⟩ (.int .i64 s.charge)).setCell ⟨g, k * 5 + 3, none⟩ (.int .i64 s.why)).setCell ⟨g, k * 5 + 4, none⟩ (.int .i64 s.ended)
theorem putSt_far {w : World} {g k b o : Nat} {s : St} (h : b ≠ g ∨ (o ≠ k * 5 ∧ o ≠ k * 5 + 1 ∧ o ≠ k * 5 + 2 ∧ o ≠ k * 5 + 3 ∧ o ≠ k * 5 + 4)) : (putSt w g k s).cell? ⟨b, o, none⟩ = w.cell? ⟨b, o, none⟩ := by
  unfold putSt
  rw [set_far (by omega), set_far (by omega), set_far (by omega), set_far (by omega), set_far (by omega)]
theorem putSt_at {w : World} {g k : Nat} {s s0 : St} (h : ∀ j v, (St.cs s0)[j]? = some v → w.cell? ⟨g, k * 5 + j, none⟩ = some v) : ∀ j v, (St.cs s)[j]? = some v → (putSt w g k s).cell? ⟨g, k * 5 + j, none⟩ = some v := by
  intro j v hj
  have e0 := h 0 _ rfl
  have e1 := h 1 _ rfl
  have e2 := h 2 _ rfl
  have e3 := h 3 _ rfl
  have e4 := h 4 _ rfl
  unfold putSt
  rcases st_get hj with ⟨rfl, rfl⟩ | ⟨rfl, rfl⟩ | ⟨rfl, rfl⟩ | ⟨rfl, rfl⟩ | ⟨rfl, rfl⟩
  · rw [set_far (by omega), set_far (by omega), set_far (by omega), set_far (by omega)]; exact set_at e0 rfl
  · rw [set_far (by omega), set_far (by omega), set_far (by omega)]; refine set_at (v := .int .i64 s0.since) ?_ rfl; rw [set_far (by omega)]; exact e1
  · rw [set_far (by omega), set_far (by omega)]; refine set_at (v := .int .i64 s0.charge) ?_ rfl; rw [set_far (by omega), set_far (by omega)]; exact e2
  · rw [set_far (by omega)]; refine set_at (v := .int .i64 s0.why) ?_ rfl; rw [set_far (by omega), set_far (by omega), set_far (by omega)]; exact e3
  · refine set_at (v := .int .i64 s0.ended) ?_ rfl; rw [set_far (by omega), set_far (by omega), set_far (by omega), set_far (by omega)]; exact e4
theorem RoomOf.put {N : Nat} {w0 w : World} {R g : Nat} {W : Work} {q : Qu} {aj af : Option Addr} {cj cf cq : Nat} (h : RoomOf N w0 w R g W q aj af cj cf cq) {k : Nat} (hk : k < q.jobs.length) (s : St) : RoomOf N w0 (putSt w g k s) R g W ⟨q.now, q.jobs.set k s⟩ aj af cj cf cq := by
  have e : ∀ o', (putSt w g k s).cell? ⟨R, o', none⟩ = w.cell? ⟨R, o', none⟩ := fun o' => putSt_far (.inl fun e => h.gR e.symm)
  have hsz : (putSt w g k s).heap.size = w.heap.size := by unfold putSt; simp
  have hfz : ∀ a, (putSt w g k s).frozen? a = w.frozen? a := by intro a; unfold putSt; simp only [World.frozen?_setCell]
  refine ⟨(e 0).trans h.c0, (e 1).trans h.c1, (e 2).trans h.c2, (e 3).trans h.c3, (e 4).trans h.c4, (e 5).trans h.c5, (e 6).trans h.c6, (e 7).trans h.c7, ?_,
    fun o => by rw [hfz]; exact h.fz o, by rw [hsz]; exact h.lt, h.ge, h.hN, h.wk0, ?_, by rw [hsz]; exact h.glt, h.gge, h.gR,
    fun o => by rw [hfz]; exact h.gz o, ?_⟩
  · rw [e 8, h.c8]; simp
  · unfold putSt; exact ((((h.bel.setCell h.gge _).setCell h.gge _).setCell h.gge _).setCell h.gge _).setCell h.gge _
  · intro i x hi j v hj
    by_cases hik : i = k
    · subst hik
      simp [hk] at hi
      subst hi
      exact putSt_at (s0 := q.jobs[i]) (fun j v hj => h.sts i _ (List.getElem?_eq_getElem hk) j v hj) j v hj
    · have hi' : q.jobs[i]? = some x := by rw [← hi]; simp [List.getElem?_set]; omega
      have hj5 : j < 5 := by rcases st_get hj with ⟨rfl, _⟩ | ⟨rfl, _⟩ | ⟨rfl, _⟩ | ⟨rfl, _⟩ | ⟨rfl, _⟩ <;> omega
      rw [putSt_far (.inr (by omega))]
      exact h.sts i x hi' j v hj
theorem Kept.put {R g : Nat} {w : World} {k : Nat} {s : St} : Kept R g w (putSt w g k s) := by
  unfold putSt
  exact ((((Kept.set (.inr rfl)).trans (Kept.set (.inr rfl))).trans (Kept.set (.inr rfl))).trans (Kept.set (.inr rfl))).trans (Kept.set (.inr rfl))

theorem Kept.setNew {R g : Nat} {w w' : World} {Y o : Nat} {u : Value} (h : Kept R g w w') (hY : w.heap.size ≤ Y) : Kept R g w (w'.setCell ⟨Y, o, none⟩ u) :=
  ⟨by simpa using h.1, fun b hb h1 h2 => (Below.heap_setCell w' _ u b (by simp; omega)).trans (h.2 b hb h1 h2)⟩
theorem Kept.drew {R g : Nat} {w w' : World} (h : Kept R g w w') : Kept R g w w'.drew := h

def workStep (W : Work) (q : Qu) (k : Nat) : Spell × List St :=
  if (fltL W q.now).2 && decide ((fltL W q.now).1 < endOf W q k) then (⟨4, k, q.now, (fltL W q.now).1⟩, q.jobs)
  else (⟨kindOf W q k, k, q.now, endOf W q k⟩, q.jobs.set k (stAfter W q k))

def Sp4 (w : World) (S : Nat) (a b c d : Int) : Prop := w.cell? ⟨S, 0, none⟩ = some (.int .i64 a) ∧ w.cell? ⟨S, 1, none⟩ = some (.int .i64 b) ∧ w.cell? ⟨S, 2, none⟩ = some (.int .i64 c) ∧ w.cell? ⟨S, 3, none⟩ = some (.int .i64 d) ∧ (∀ o, w.frozen? ⟨S, o, none⟩ = false)
def St5 (w : World) (X : Nat) (s : St) : Prop := w.cell? ⟨X, 0, none⟩ = some (.int .i64 s.progress) ∧ w.cell? ⟨X, 1, none⟩ = some (.int .i64 s.since) ∧ w.cell? ⟨X, 2, none⟩ = some (.int .i64 s.charge) ∧ w.cell? ⟨X, 3, none⟩ = some (.int .i64 s.why) ∧ w.cell? ⟨X, 4, none⟩ = some (.int .i64 s.ended) ∧ (∀ o, w.frozen? ⟨X, o, none⟩ = false)
def Jb4 (w : World) (J : Nat) (j : Job) : Prop := w.cell? ⟨J, 0, none⟩ = some (.string j.name) ∧ w.cell? ⟨J, 1, none⟩ = some (.int .i64 j.arrive) ∧ w.cell? ⟨J, 2, none⟩ = some (.int .i64 j.claim) ∧ w.cell? ⟨J, 3, none⟩ = some (.int .i64 j.needs)
theorem Sp4.at {w w' : World} {S : Nat} {a b c d : Int} (h : Sp4 w S a b c d) (hb : Below w.heap.size w w') (hS : S < w.heap.size) : Sp4 w' S a b c d := by
  obtain ⟨h0, h1, h2, h3, h4⟩ := h
  obtain ⟨e, f⟩ := bcell hb
  exact ⟨(e S 0 hS).trans h0, (e S 1 hS).trans h1, (e S 2 hS).trans h2, (e S 3 hS).trans h3, fun o => (f S o hS).trans (h4 o)⟩
theorem St5.at {w w' : World} {S : Nat} {s : St} (h : St5 w S s) (hb : Below w.heap.size w w') (hS : S < w.heap.size) : St5 w' S s := by
  obtain ⟨h0, h1, h2, h3, h4, h5⟩ := h
  obtain ⟨e, f⟩ := bcell hb
  exact ⟨(e S 0 hS).trans h0, (e S 1 hS).trans h1, (e S 2 hS).trans h2, (e S 3 hS).trans h3, (e S 4 hS).trans h4, fun o => (f S o hS).trans (h5 o)⟩
theorem Jb4.at {w w' : World} {S : Nat} {s : Job} (h : Jb4 w S s) (hb : Below w.heap.size w w') (hS : S < w.heap.size) : Jb4 w' S s := by
  obtain ⟨h0, h1, h2, h3⟩ := h
  obtain ⟨e, f⟩ := bcell hb
  exact ⟨(e S 0 hS).trans h0, (e S 1 hS).trans h1, (e S 2 hS).trans h2, (e S 3 hS).trans h3⟩

def WorkRes (N : Nat) (w0 w : World) (R g : Nat) (W : Work) (q : Qu) (k : Nat) (aj af : Option Addr) (cj cf cq : Nat) (e : Ending) (w' : World) : Prop :=
  e = .returned (.agg #[.int .i64 (workStep W q k).1.kind, .int .i64 (workStep W q k).1.job, .int .i64 (workStep W q k).1.from0, .int .i64 (workStep W q k).1.until0]) ∧ RoomOf N w0 w' R g W ⟨q.now, (workStep W q k).2⟩ aj af cj cf cq ∧ Kept R g w w'

def WkS (w wr : World) (R S J X : Nat) (j : Job) (a b c d : Int) (s : St) : Prop :=
  Below w.heap.size w wr ∧ wr.cell? ⟨w.heap.size, 0, none⟩ = some (.pointer (some ⟨R, 0, none⟩)) ∧ Jb4 wr J j ∧ Sp4 wr S a b c d ∧ St5 wr X s ∧ S < wr.heap.size ∧ J < wr.heap.size ∧ X < wr.heap.size
theorem WkS.at {w wr wr' : World} {R S J X : Nat} {j : Job} {a b c d : Int} {s : St} (h : WkS w wr R S J X j a b c d s) (hb : Below wr.heap.size wr wr') (h0 : w.heap.size < wr.heap.size) : WkS w wr' R S J X j a b c d s := by
  obtain ⟨h1, h2, h3, h4, h5, h6, h7, h8⟩ := h
  have := hb.size
  exact ⟨h1.trans (hb.mono h1.size), (hb.cell (p := ⟨w.heap.size, 0, none⟩) h0).trans h2, h3.at hb h7, h4.at hb h6, h5.at hb h8, by omega, by omega, by omega⟩
theorem Jb4.setFar {w : World} {J Y o : Nat} {j : Job} {u : Value} (hn : J ≠ Y) (h : Jb4 w J j) : Jb4 (w.setCell ⟨Y, o, none⟩ u) J j := by
  obtain ⟨h0, h1, h2, h3⟩ := h
  exact ⟨(set_far (.inl hn)).trans h0, (set_far (.inl hn)).trans h1, (set_far (.inl hn)).trans h2, (set_far (.inl hn)).trans h3⟩
theorem Jb4.drew {w : World} {J : Nat} {j : Job} (h : Jb4 w J j) : Jb4 w.drew J j := h
theorem Sp4.setFar {w : World} {J Y o : Nat} {a b c d : Int} {u : Value} (hn : J ≠ Y) (h : Sp4 w J a b c d) : Sp4 (w.setCell ⟨Y, o, none⟩ u) J a b c d := by
  obtain ⟨h0, h1, h2, h3, h4⟩ := h
  exact ⟨(set_far (.inl hn)).trans h0, (set_far (.inl hn)).trans h1, (set_far (.inl hn)).trans h2, (set_far (.inl hn)).trans h3, fun o => by rw [World.frozen?_setCell]; exact h4 o⟩
theorem St5.setFar {w : World} {J Y o : Nat} {j : St} {u : Value} (hn : J ≠ Y) (h : St5 w J j) : St5 (w.setCell ⟨Y, o, none⟩ u) J j := by
  obtain ⟨h0, h1, h2, h3, h4, h5⟩ := h
  exact ⟨(set_far (.inl hn)).trans h0, (set_far (.inl hn)).trans h1, (set_far (.inl hn)).trans h2, (set_far (.inl hn)).trans h3, (set_far (.inl hn)).trans h4, fun o => by rw [World.frozen?_setCell]; exact h5 o⟩
theorem mul_bd {x r : Int} (h1 : 0 ≤ x) (h2 : x ≤ 2000) (h3 : 0 ≤ r) (h4 : r ≤ 1000) : 0 ≤ x * r ∧ x * r ≤ 2000000 :=
  ⟨Int.mul_nonneg h1 h3, Int.le_trans (Int.mul_le_mul h2 h4 h3 (by omega)) (by decide)⟩
theorem val_int {a b : Int} (h : a = b) : Value.int .i64 a = .int .i64 b := by rw [h]
theorem qend_job (j : Job) (w : World) : Calls Try.prog 52 #[.agg #[.string j.name, .int .i64 j.arrive, .int .i64 j.claim, .int .i64 j.needs]] w fun e w' => e = .returned (.int .i64 j.fin) ∧ w.alloc (.cells #[.string j.name, .int .i64 j.arrive, .int .i64 j.claim, .int .i64 j.needs] 56) = w' := qend_any _ _ _ _ w
theorem minutes_eq {W : Work} {q : Qu} {k : Nat} (hk : k < q.jobs.length) (hk' : k < W.jobs.length) : minutesOf W q k = if W.jobs[k].fin - q.jobs[k].progress < W.rules.slice then W.jobs[k].fin - q.jobs[k].progress else W.rules.slice := by
  unfold minutesOf; rw [Qu.st_eq hk, Work.job_eq hk']

set_option maxRecDepth 100000 in
set_option maxHeartbeats 40000000 in
theorem work_any (N : Nat) (w0 w : World) (R g : Nat) (W : Work) (q : Qu) (k : Nat) (aj af : Option Addr) (cj cf cq : Nat) (hR : RoomOf N w0 w R g W q aj af cj cf cq) (hK : WOk W) (hQ : QOk W q)
    (hne : 0 < (readyUpto W q q.jobs.length).length) (hk : minOf (fun a b => workCmp W q a.toNat b.toNat) (readyUpto W q q.jobs.length) = (k : Int)) (hkl : k < q.jobs.length) (hwhy : q.jobs[k].why = 0) :
    Calls Try.prog 67 #[.pointer (some ⟨R, 0, none⟩)] w (WorkRes N w0 w R g W q k aj af cj cf cq) := by
  have HR := hid hR
  have HK := hid hK
  have HQ := hid hQ
  have HNE := hid hne
  have HKM := hid hk
  have HWHY := hid hwhy
  have hkW : k < W.jobs.length := by have := hQ.len; omega
  have hRl := hR.lt
  have hgl := hR.glt
  clear hR hK hQ hne hk hwhy
  go_enter Try.func67, Try.ntmps67
  go_wp2_with fail
  refine (ready_any R W q aj af (some ⟨g, 0, none⟩) cj cf cq _ (HR.out.in.at (by repeat (first | (with_reducible exact Below.refl _ _) | (with_reducible refine bdrewN ?_ _) | (with_reducible refine Below.drew ?_) | (with_reducible refine Below.setCell ?_ (by first | omega | (simp; done) | (simp; omega)) _) | (with_reducible refine Below.alloc ?_ (by first | omega | (simp; done) | (simp; omega)) _)))) HK.out HQ.out).mono ?_
  rintro e w2 ⟨v, rfl, hO, hb2⟩
  obtain ⟨av, cv, rfl, hrd, _⟩ := Own.rd (f := fun n : Int => [Value.int .i64 n]) (m := 1) (fun _ => rfl) hO
  have HB2 := hid (Below.trans (by repeat (first | (with_reducible exact Below.refl _ w) | (with_reducible refine bdrewN ?_ _) | (with_reducible refine Below.drew ?_) | (with_reducible refine Below.setCell ?_ (by first | omega | (simp; done) | (simp; omega)) _) | (with_reducible refine Below.alloc ?_ (by first | omega | (simp; done) | (simp; omega)) _))) (hb2.mono (by first | omega | (simp; done) | (simp; omega))) : Below w.heap.size w w2)
  have hs2 : w.heap.size + 1 < w2.heap.size := by have := hb2.size; simp at this; omega
  have a1 : w2.cell? ⟨w.heap.size, 0, none⟩ = some (.pointer (some ⟨R, 0, none⟩)) := by rw [hb2.cell (p := ⟨w.heap.size, 0, none⟩) (by first | omega | (simp; done) | (simp; omega))]; go_simp
  have a2 : Sp4 w2 (w.heap.size + 1) 0 0 0 0 := by
    refine ⟨?_, ?_, ?_, ?_, ?_⟩
    · rw [hb2.cell (p := ⟨w.heap.size + 1, 0, none⟩) (by first | omega | (simp; done) | (simp; omega))]; go_simp
    · rw [hb2.cell (p := ⟨w.heap.size + 1, 1, none⟩) (by first | omega | (simp; done) | (simp; omega))]; go_simp
    · rw [hb2.cell (p := ⟨w.heap.size + 1, 2, none⟩) (by first | omega | (simp; done) | (simp; omega))]; go_simp
    · rw [hb2.cell (p := ⟨w.heap.size + 1, 3, none⟩) (by first | omega | (simp; done) | (simp; omega))]; go_simp
    · intro o; rw [hb2.frozen (p := ⟨w.heap.size + 1, o, none⟩) (by first | omega | (simp; done) | (simp; omega))]; go_simp
  clear hb2 hO
  have Hrd := hid hrd; clear hrd
  go_wp2_with fail
  refine (least_any (fun a b => workCmp W q a.toNat b.toNat) (fun x => ∃ i : Nat, i < q.jobs.length ∧ x = (i : Int)) w.heap.size av cv (readyUpto W q q.jobs.length) _ ?_ Hrd.out ?_ ?_).mono ?_
  · have := ready_len W q q.jobs.length; have := HK.out.jl; have := HQ.out.len; omega
  · intro i hi
    unfold readyUpto at hi ⊢
    simp only [List.getElem_map]
    refine ⟨_, ?_, rfl⟩
    have := List.getElem_mem (l := (List.range q.jobs.length).filter (cand W q)) (n := i) (by simpa using hi)
    rw [List.mem_filter] at this
    simpa using this.1
  · rintro x y w' ⟨i, hi, rfl⟩ ⟨j, hj, rfl⟩ hb'
    exact workCmp_any w.heap.size R W q aj af (some ⟨g, 0, none⟩) cj cf cq i j w' ((hb'.cell (p := ⟨w.heap.size, 0, none⟩) (by first | omega | (simp; done) | (simp; omega))).trans a1) (Nat.lt_of_lt_of_le (by omega) hb'.size) (HR.out.in.at (HB2.out.trans (hb'.mono HB2.out.size))) HK.out HQ.out hi hj
  · rintro e w3 ⟨rfl, hb3⟩
    rw [if_neg (by have := HNE.out; omega), show decide ((readyUpto W q q.jobs.length).length ≠ 0) = true by have := HNE.out; simp; intro h; rw [h] at this; simp at this, HKM.out]
    clear HKM HNE Hrd
    have HB3 := hid (HB2.out.trans (hb3.mono HB2.out.size))
    have a3 : w3.cell? ⟨w.heap.size, 0, none⟩ = some (.pointer (some ⟨R, 0, none⟩)) := (hb3.cell (p := ⟨w.heap.size, 0, none⟩) (by first | omega | (simp; done) | (simp; omega))).trans a1
    have a4 : Sp4 w3 (w.heap.size + 1) 0 0 0 0 := a2.at hb3 hs2
    have hs3 : w.heap.size + 1 < w3.heap.size := Nat.lt_of_lt_of_le hs2 hb3.size
    have HR3 := hid (HR.out.at HB3.out)
    clear a1 a2 hs2 hb3 HB2 w2
    have A4 := hid a4; clear a4
    go_wp2_with fail
    have r5 := HR3.out.c5
    have r8 := HR3.out.c8
    have hR3 : R < w3.heap.size := HR3.out.lt
    obtain ⟨b1, off1, rfl, hb1, d1, d2, d3, d4⟩ := RdJobs.ne HR3.out.wk.jobs hkW
    obtain ⟨hb2, e1, e2, e3, e4, e5⟩ := RdSts.get HR3.out.rd hkl
    simp only [Nat.zero_add] at e1 e2 e3 e4 e5
    have q0 : w.heap.size < w3.heap.size := by omega
    have x1 : (k : Int) < (q.jobs.length : Int) := by omega
    have x2 : (k : Int) < (W.jobs.length : Int) := by omega
    go_cut [5, 6] (fun pj px wr => ∃ J X : Nat, pj = .pointer (some ⟨J, 0, none⟩) ∧ px = .pointer (some ⟨X, 0, none⟩) ∧ J ≠ X ∧ w3.heap.size ≤ J ∧ w3.heap.size ≤ X ∧ J < wr.heap.size ∧ X < wr.heap.size ∧ Below w3.heap.size w3 wr ∧ Hid (Jb4 wr J W.jobs[k]) ∧ Hid (St5 wr X q.jobs[k]))
    case first =>
      as_aux_lemma =>
      go_region
      all_goals
        go_wp2_with fail
        go_meet
        first
        | exact ⟨w3.heap.size, w3.heap.size + 1, rfl, rfl, by omega, by omega, by omega, (by first | omega | (simp; done) | (simp; omega)), (by first | omega | (simp; done) | (simp; omega)), (by repeat (first | (with_reducible exact Below.refl _ _) | (with_reducible refine bdrewN ?_ _) | (with_reducible refine Below.drew ?_) | (with_reducible refine Below.setCell ?_ (by first | omega | (simp; done) | (simp; omega)) _) | (with_reducible refine Below.alloc ?_ (by first | omega | (simp; done) | (simp; omega)) _))), hid ⟨by go_simp, by go_simp, by go_simp, by go_simp⟩, hid ⟨by go_simp, by go_simp, by go_simp, by go_simp, by go_simp, by intro o; go_simp⟩⟩
        | exact ⟨w3.heap.size + 1, w3.heap.size, rfl, rfl, by omega, by omega, by omega, (by first | omega | (simp; done) | (simp; omega)), (by first | omega | (simp; done) | (simp; omega)), (by repeat (first | (with_reducible exact Below.refl _ _) | (with_reducible refine bdrewN ?_ _) | (with_reducible refine Below.drew ?_) | (with_reducible refine Below.setCell ?_ (by first | omega | (simp; done) | (simp; omega)) _) | (with_reducible refine Below.alloc ?_ (by first | omega | (simp; done) | (simp; omega)) _))), hid ⟨by go_simp, by go_simp, by go_simp, by go_simp⟩, hid ⟨by go_simp, by go_simp, by go_simp, by go_simp, by go_simp, by intro o; go_simp⟩⟩
    case rest =>
      obtain ⟨J, X, rfl, rfl, hJX, hJ, hX, hJl, hXl, hBc, jb, st⟩ := hcut
      clear d1 d2 d3 d4 e1 e2 e3 e4 e5 r5 r8
      have HBC : Below w.heap.size w wc := HB3.out.trans (hBc.mono HB3.out.size)
      have sp : Sp4 wc (w.heap.size + 1) 0 0 0 0 := A4.out.at hBc hs3
      have a1 : wc.cell? ⟨w.heap.size, 0, none⟩ = some (.pointer (some ⟨R, 0, none⟩)) := (hBc.cell (p := ⟨w.heap.size, 0, none⟩) (by first | omega | (simp; done) | (simp; omega))).trans a3
      have hsc := hBc.size
      have WS : Hid (WkS w wc R (w.heap.size + 1) J X W.jobs[k] 0 0 0 0 q.jobs[k]) := hid ⟨HBC, a1, jb.out, sp, st.out, by omega, hJl, hXl⟩
      clear a3 A4 HR3 HB3 hBc HBC sp a1 jb st hJl hXl
      generalize hSS : w.heap.size + 1 = S at *
      have hS0 : w.heap.size < S := by omega
      have hS1 : S < J := by omega
      have hS2 : S < X := by omega
      clear hJ hX hs3 hR3 hsc hSS hb1 hb2 q0
      obtain ⟨⟨b1, b3⟩, ⟨b4, b5⟩, ⟨b6, b7⟩, _, ⟨b8, b9⟩⟩ := HK.out.rb
      obtain ⟨f1, f2, f3, f4⟩ := Job.fin_bd (HK.out.job k hkW)
      have hqb := HQ.out.b hkl hkW
      have Hmn := hid (minutes_eq (W := W) (q := q) hkl hkW)
      generalize hmn : minutesOf W q k = mn
      rw [hmn] at Hmn
      have Hmn0 := hid hmn; clear hmn
      obtain ⟨⟨g1, g2⟩, ⟨g3, g4⟩, ⟨g5, g6⟩, _, _, g7⟩ := hqb
      have g8 : q.jobs[k].progress < W.jobs[k].fin := by have := g7 HWHY.out; omega
      clear g7
      have hmb : 1 ≤ mn ∧ mn ≤ 600 ∧ q.jobs[k].progress + mn ≤ W.jobs[k].fin := by rw [Hmn.out]; split <;> omega
      obtain ⟨h1, h2, h3⟩ := hmb
      have s1 : IntKind.i64.wrap (W.jobs[k].fin - q.jobs[k].progress) = W.jobs[k].fin - q.jobs[k].progress := IntWalk.i64_in _ (by omega)
      go_wp2_with fail
      obtain ⟨wb, rfl⟩ : ∃ wb : World, wb = wc := ⟨_, rfl⟩
      go_cut [7] (fun tl wd => tl = .int .i64 (W.jobs[k].fin - q.jobs[k].progress) ∧ Hid (WkS w wd R S J X W.jobs[k] 0 0 0 0 q.jobs[k]))
      case first =>
        as_aux_lemma =>
        obtain ⟨hB, a1, ⟨j0, j1, j2, j3⟩, sp, st, hl1, hl2, hl3⟩ := WS.out
        have st' := st
        obtain ⟨y0, y1, y2, y3, y4, y5⟩ := st
        have hRb := HR.out.at hB
        have c0 := hRb.c0
        have hRl2 : R < wb.heap.size := hRb.lt
        have hl0 : w.heap.size < wb.heap.size := by omega
        have Sp := hid sp; have St' := hid st'; have HRb := hid hRb; have HB := hid hB
        clear sp st' hRb y1 y2 y3 y4 y5 hB HWHY
        go_region_held3 (fun w' => w'.cell? ⟨R, 0, none⟩ = some (.int .i64 W.rules.slice) ∧ w'.cell? ⟨w.heap.size, 0, none⟩ = some (.pointer (some ⟨R, 0, none⟩)) ∧ w'.cell? ⟨J, 0, none⟩ = some (.string W.jobs[k].name) ∧ w'.cell? ⟨J, 1, none⟩ = some (.int .i64 W.jobs[k].arrive) ∧ w'.cell? ⟨J, 2, none⟩ = some (.int .i64 W.jobs[k].claim) ∧ w'.cell? ⟨J, 3, none⟩ = some (.int .i64 W.jobs[k].needs) ∧ w'.cell? ⟨X, 0, none⟩ = some (.int .i64 q.jobs[k].progress))
          (first | (go_simp; done))
          (first | (go_at_call 52; refine (qend_job W.jobs[k] _).mono ?_; rintro e w7 ⟨rfl, rfl⟩))
        go_wp2_with fail
        all_goals
          go_meet
          exact ⟨rfl, hid (WS.out.at (by repeat (first | (with_reducible exact Below.refl _ _) | (with_reducible refine bdrewN ?_ _) | (with_reducible refine Below.drew ?_) | (with_reducible refine Below.setCell ?_ (by first | omega | (simp; done) | (simp; omega)) _) | (with_reducible refine Below.alloc ?_ (by first | omega | (simp; done) | (simp; omega)) _))) hl0)⟩
      case rest =>
        obtain ⟨wb2, rfl⟩ : ∃ wb : World, wb = wc := ⟨_, rfl⟩
        obtain ⟨rfl, WS⟩ := hcut
        have nw0 := HQ.out.now0
        have nw1 := HQ.out.now1
        obtain ⟨hB, a1, jb, ⟨z0, z1, z2, z3, z4⟩, ⟨y0, y1, y2, y3, y4, y5⟩, hl1, hl2, hl3⟩ := WS.out
        have hRb := HR.out.at hB
        have c0 := hRb.c0
        have c1 := hRb.c1
        have c7 := hRb.c7
        have hRl2 : R < wb2.heap.size := hRb.lt
        have hl0 : w.heap.size < wb2.heap.size := by omega
        have Jb := hid jb; have HB := hid hB
        clear jb hRb hB
        go_upto_region 4 with fail
        go_cut [8] (fun tm wd => tm = .int .i64 mn ∧ wd = wb2)
        case first =>
          go_wp2_with fail
          all_goals
            go_meet
            refine ⟨val_int ?_, rfl⟩
            rw [Hmn.out]; split <;> omega
        case rest =>
          obtain ⟨rfl, rfl⟩ := hcut
          go_upto_region 5 with fail
          go_cut [] (fun wd => Hid (WkS w wd R S J X W.jobs[k] 1 k q.now (q.now + W.rules.load + mn) q.jobs[k]))
          case first =>
            as_aux_lemma =>
            go_still_tail 23, (by kernel_rfl)
            go_outline
            go_wp2_with fail
            go_meet
            refine hid ⟨(by repeat (first | (with_reducible exact HB.out) | (with_reducible refine bdrewN ?_ _) | (with_reducible refine Below.drew ?_) | (with_reducible refine Below.setCell ?_ (by first | omega | (simp; done) | (simp; omega)) _) | (with_reducible refine Below.alloc ?_ (by first | omega | (simp; done) | (simp; omega)) _))), by go_simp, ((((Jb4.drew Jb.out).setFar (by omega)).setFar (by omega)).setFar (by omega)).setFar (by omega), ⟨by go_simp, by go_simp, by go_simp, by go_simp, by intro o; go_simp⟩, ⟨by go_simp, by go_simp, by go_simp, by go_simp, by go_simp, by intro o; go_simp⟩, (by first | omega | (simp; done) | (simp; omega)), (by first | omega | (simp; done) | (simp; omega)), (by first | omega | (simp; done) | (simp; omega))⟩
          case rest =>
            obtain ⟨wb3, rfl⟩ : ∃ wb : World, wb = wc := ⟨_, rfl⟩
            clear a1 z0 z1 z2 z3 z4 y0 y1 y2 y3 y4 y5 hl1 hl2 hl3 c0 c1 c7 hRl2 hl0 Jb HB WS
            have WS := hcut; clear hcut
            go_upto_region 6 with fail
            go_cut [] (fun wd => Hid (WkS w wd R S J X W.jobs[k] 1 k q.now (q.now + W.rules.load + mn) { q.jobs[k] with progress := q.jobs[k].progress + mn }))
            case first =>
              as_aux_lemma =>
              obtain ⟨hB, a1, jb, sp, ⟨y0, y1, y2, y3, y4, y5⟩, hl1, hl2, hl3⟩ := WS.out
              have Jb := hid jb; have HB := hid hB; have Sp := hid sp; have A1 := hid a1
              clear jb hB sp a1
              go_wp2_with fail
              go_meet
              exact hid ⟨(by repeat (first | (with_reducible exact HB.out) | (with_reducible refine bdrewN ?_ _) | (with_reducible refine Below.drew ?_) | (with_reducible refine Below.setCell ?_ (by first | omega | (simp; done) | (simp; omega)) _) | (with_reducible refine Below.alloc ?_ (by first | omega | (simp; done) | (simp; omega)) _))), (set_far (.inl (by omega))).trans A1.out, Jb.out.setFar (by omega), Sp.out.setFar (by omega), ⟨by go_simp, by go_simp, by go_simp, by go_simp, by go_simp, by intro o; go_simp⟩, (by first | omega | (simp; done) | (simp; omega)), (by first | omega | (simp; done) | (simp; omega)), (by first | omega | (simp; done) | (simp; omega))⟩
            case rest =>
              obtain ⟨wb4, rfl⟩ : ∃ wb : World, wb = wc := ⟨_, rfl⟩
              clear WS
              have WS := hcut; clear hcut
              have hdn : doneOf W q k = (q.jobs[k].progress + mn == W.jobs[k].fin) := by unfold doneOf; rw [Qu.st_eq hkl, Work.job_eq hkW, Hmn0.out]
              have Hdn := hid hdn; clear hdn
              go_upto_block 0 with fail
              go_cut [] (fun wd => Hid (WkS w wd R S J X W.jobs[k] (kindOf W q k) k q.now (endOf W q k) { q.jobs[k] with progress := q.jobs[k].progress + mn, why := (stAfter W q k).why, ended := (stAfter W q k).ended }))
              case first =>
                obtain ⟨hB, a1, jb, sp, st, hl1, hl2, hl3⟩ := WS.out
                have hRb := HR.out.at hB
                have c2 := hRb.c2
                have hRl2 : R < wb4.heap.size := hRb.lt
                have hl0 : w.heap.size < wb4.heap.size := by omega
                have Jb := hid jb; have HB := hid hB; have St := hid st
                clear jb hB st hRb
                obtain ⟨z0, z1, z2, z3, z4⟩ := sp
                obtain ⟨y0, y1, y2, y3, y4, y5⟩ := St.out
                by_cases t1 : mn < W.jobs[k].fin - q.jobs[k].progress
                ·
                  as_aux_lemma =>
                  have t1' : (q.jobs[k].progress + mn == W.jobs[k].fin) = false := by simp; omega
                  have K2 : Hid (endOf W q k = q.now + W.rules.load + mn + W.rules.dump) := by show endOf W q k = _; unfold endOf; rw [Hdn.out, t1', Hmn0.out]; rfl
                  have K4 : Hid ((stAfter W q k).ended = q.jobs[k].ended) := by show (if doneOf W q k then endOf W q k else (q.st k).ended) = _; rw [Hdn.out, t1', Qu.st_eq hkl]; rfl
                  have K1 : Hid (kindOf W q k = 1) := by show kindOf W q k = 1; unfold kindOf; rw [Hdn.out, t1']; rfl
                  have K3 : Hid ((stAfter W q k).why = q.jobs[k].why) := by show (if doneOf W q k then (if (W.job k).fin == (W.job k).needs then (1 : Int) else 2) else (q.st k).why) = _; rw [Hdn.out, t1', Qu.st_eq hkl]; rfl
                  clear t1'
                  go_wp2_with fail
                  go_region
                  go_wp2_with fail
                  go_meet
                  refine hid ?_
                  rw [K1.out, K2.out, K3.out, K4.out]
                  exact ⟨(by repeat (first | (with_reducible exact HB.out) | (with_reducible refine bdrewN ?_ _) | (with_reducible refine Below.drew ?_) | (with_reducible refine Below.setCell ?_ (by first | omega | (simp; done) | (simp; omega)) _) | (with_reducible refine Below.alloc ?_ (by first | omega | (simp; done) | (simp; omega)) _))), (by go_simp), by first | exact Jb4.setFar (by omega) Jb.out | exact Jb4.setFar (by omega) (Jb4.drew Jb.out) | exact ((Jb.out.setFar (by omega)).setFar (by omega)).setFar (by omega), ⟨by go_simp, by go_simp, by go_simp, by go_simp, by intro o; go_simp⟩, ⟨by go_simp, by go_simp, by go_simp, by go_simp, by go_simp, by intro o; go_simp⟩, (by first | omega | (simp; done) | (simp; omega)), (by first | omega | (simp; done) | (simp; omega)), (by first | omega | (simp; done) | (simp; omega))⟩
                ·
                  as_aux_lemma =>
                  have t1' : (q.jobs[k].progress + mn == W.jobs[k].fin) = true := by simp; omega
                  have K2 : Hid (endOf W q k = q.now + W.rules.load + mn) := by show endOf W q k = _; unfold endOf; rw [Hdn.out, t1', Hmn0.out]; rfl
                  have K4 : Hid ((stAfter W q k).ended = q.now + W.rules.load + mn) := by show (if doneOf W q k then endOf W q k else _) = _; rw [Hdn.out, t1', K2.out]; rfl
                  have hwh : Hid ((stAfter W q k).why = (if decide (W.jobs[k].needs ≤ W.jobs[k].claim) then 1 else 2)) := by show (if doneOf W q k then (if (W.job k).fin == (W.job k).needs then (1 : Int) else 2) else _) = _; rw [Hdn.out, t1', Work.job_eq hkW, rend_lem]; rfl
                  have hkd : Hid (kindOf W q k = (if decide (W.jobs[k].needs ≤ W.jobs[k].claim) then 2 else 3)) := by show kindOf W q k = _; unfold kindOf; rw [Hdn.out, t1', Work.job_eq hkW, rend_lem]; rfl
                  clear t1'
                  obtain ⟨j0, j1, j2, j3⟩ := Jb.out
                  by_cases t2 : W.jobs[k].needs ≤ W.jobs[k].claim
                  · have K1 : Hid (kindOf W q k = 2) := by show kindOf W q k = 2; rw [hkd.out]; simp [t2]
                    have K3 : Hid ((stAfter W q k).why = 1) := by show (stAfter W q k).why = 1; rw [hwh.out]; simp [t2]
                    go_wp2_with fail
                    go_meet
                    refine hid ?_
                    rw [K1.out, K2.out, K3.out, K4.out]
                    exact ⟨(by repeat (first | (with_reducible exact HB.out) | (with_reducible refine bdrewN ?_ _) | (with_reducible refine Below.drew ?_) | (with_reducible refine Below.setCell ?_ (by first | omega | (simp; done) | (simp; omega)) _) | (with_reducible refine Below.alloc ?_ (by first | omega | (simp; done) | (simp; omega)) _))), (by go_simp), by first | exact Jb4.setFar (by omega) Jb.out | exact Jb4.setFar (by omega) (Jb4.drew Jb.out) | exact ((Jb.out.setFar (by omega)).setFar (by omega)).setFar (by omega), ⟨by go_simp, by go_simp, by go_simp, by go_simp, by intro o; go_simp⟩, ⟨by go_simp, by go_simp, by go_simp, by go_simp, by go_simp, by intro o; go_simp⟩, (by first | omega | (simp; done) | (simp; omega)), (by first | omega | (simp; done) | (simp; omega)), (by first | omega | (simp; done) | (simp; omega))⟩
                  · have K1 : Hid (kindOf W q k = 3) := by show kindOf W q k = 3; rw [hkd.out]; simp [t2]
                    have K3 : Hid ((stAfter W q k).why = 2) := by show (stAfter W q k).why = 2; rw [hwh.out]; simp [t2]
                    go_wp2_with fail
                    go_meet
                    refine hid ?_
                    rw [K1.out, K2.out, K3.out, K4.out]
                    exact ⟨(by repeat (first | (with_reducible exact HB.out) | (with_reducible refine bdrewN ?_ _) | (with_reducible refine Below.drew ?_) | (with_reducible refine Below.setCell ?_ (by first | omega | (simp; done) | (simp; omega)) _) | (with_reducible refine Below.alloc ?_ (by first | omega | (simp; done) | (simp; omega)) _))), (by go_simp), by first | exact Jb4.setFar (by omega) Jb.out | exact Jb4.setFar (by omega) (Jb4.drew Jb.out) | exact ((Jb.out.setFar (by omega)).setFar (by omega)).setFar (by omega), ⟨by go_simp, by go_simp, by go_simp, by go_simp, by intro o; go_simp⟩, ⟨by go_simp, by go_simp, by go_simp, by go_simp, by go_simp, by intro o; go_simp⟩, (by first | omega | (simp; done) | (simp; omega)), (by first | omega | (simp; done) | (simp; omega)), (by first | omega | (simp; done) | (simp; omega))⟩
              case rest =>
                obtain ⟨wb5, rfl⟩ : ∃ wb : World, wb = wc := ⟨_, rfl⟩
                clear WS Hdn
                have WS := hcut; clear hcut
                have Hst : Hid (stAfter W q k = ⟨q.jobs[k].progress + mn, endOf W q k, q.jobs[k].charge + (endOf W q k - q.now) * W.rules.rate, (stAfter W q k).why, (stAfter W q k).ended⟩) := by
                  show stAfter W q k = _
                  unfold stAfter; rw [Qu.st_eq hkl, Hmn0.out]
                have HE : Hid (q.now + W.rules.load + mn ≤ endOf W q k ∧ endOf W q k ≤ q.now + W.rules.load + mn + W.rules.dump) := by
                  show _ ∧ _
                  unfold endOf; rw [Hmn0.out]; split <;> omega
                have Hws := hid (show workStep W q k = if (fltL W q.now).2 && decide ((fltL W q.now).1 < endOf W q k) then (⟨4, k, q.now, (fltL W q.now).1⟩, q.jobs) else (⟨kindOf W q k, k, q.now, endOf W q k⟩, q.jobs.set k (stAfter W q k)) from rfl)
                generalize hF : fltL W q.now = F at Hws
                have HF := hid hF; clear hF
                obtain ⟨fa, fb⟩ := F
                generalize endOf W q k = E at *
                generalize kindOf W q k = KD at *
                generalize (stAfter W q k).why = wy at *
                generalize (stAfter W q k).ended = wn at *
                obtain ⟨E1, E2⟩ := HE.out
                clear HE Hmn s1
                obtain ⟨hB, a1, jb, sp, st, hl1, hl2, hl3⟩ := WS.out
                have hl0 : w.heap.size < wb5.heap.size := by omega
                have hRl2 : R < wb5.heap.size := (HR.out.at hB).lt
                have HB := hid hB
                clear jb sp st hB
                go_upto_block 99 with fail
                refine (fault_n R W q _ af (some ⟨g, 0, none⟩) cj cf cq fa fb _ (HR.out.at HB.out).in HK.out HF.out).mono ?_
                rintro e w6 ⟨rfl, hb6⟩
                have WS6 := hid (WS.out.at hb6 hl0)
                have hs6 := hb6.size
                clear a1 WS HF HB hb6
                obtain ⟨hB, a1, jb, ⟨z0, z1, z2, z3, z4⟩, st, hl1', hl2', hl3'⟩ := WS6.out
                have SP6 : Hid (Sp4 w6 S KD k q.now E) := hid ⟨z0, z1, z2, z3, z4⟩
                have St := hid st; have HB := hid hB; have Jb := hid jb
                have hR6 : R < w6.heap.size := by omega
                have hl6 : w.heap.size < w6.heap.size := by omega
                clear jb st hB
                cases fb with
                | true =>
                  by_cases t1 : fa < E
                  ·
                    as_aux_lemma =>
                    have Hw2 := hid (show workStep W q k = (⟨4, k, q.now, fa⟩, q.jobs) by rw [Hws.out]; simp [t1])
                    clear Hws
                    go_wp2_with fail
                    refine bodyPost_ret (v := .agg #[.int .i64 4, .int .i64 (k : Int), .int .i64 q.now, .int .i64 fa]) (res_c Try.results67 rfl (load_spell ?_ ?_ ?_ ?_)) rfl ⟨by rw [Hw2.out], ?_, ?_⟩
                    · go_simp
                    · go_simp
                    · go_simp
                    · refine set_at (v := .int .i64 fa) ?_ rfl
                      iterate 3 rw [set_far (by simp)]
                      refine set_at (v := .int .i64 E) ?_ rfl
                      rw [set_far (by simp)]; exact z3
                    · rw [Hw2.out]; exact HR.out.at (by repeat (first | (with_reducible exact HB.out) | (with_reducible refine bdrewN ?_ _) | (with_reducible refine Below.drew ?_) | (with_reducible refine Below.setCell ?_ (by first | omega | (simp; done) | (simp; omega)) _) | (with_reducible refine Below.alloc ?_ (by first | omega | (simp; done) | (simp; omega)) _)))
                    · exact Kept.of_below (by repeat (first | (with_reducible exact HB.out) | (with_reducible refine bdrewN ?_ _) | (with_reducible refine Below.drew ?_) | (with_reducible refine Below.setCell ?_ (by first | omega | (simp; done) | (simp; omega)) _) | (with_reducible refine Below.alloc ?_ (by first | omega | (simp; done) | (simp; omega)) _)))
                  ·
                    have Hw2 := hid (show workStep W q k = (⟨KD, k, q.now, E⟩, q.jobs.set k (stAfter W q k)) by rw [Hws.out]; simp [t1])
                    clear Hws
                    go_upto_region 16 with fail
                    clear z0 z1 z2 z3 z4
                    obtain ⟨q1, q2, q3, q4, q5⟩ := SP6.out
                    have hc4 := (HR.out.at HB.out).c4
                    obtain ⟨y0, y1, y2, y3, y4, y5⟩ := St.out
                    obtain ⟨m1, m2⟩ := mul_bd (x := E - q.now) (r := W.rules.rate) (by omega) (by omega) b8 b9
                    have s2 : IntKind.i64.wrap (E - q.now) = E - q.now := IntWalk.i64_in _ (by omega)
                    have s3 : IntKind.i64.wrap ((E - q.now) * W.rules.rate) = (E - q.now) * W.rules.rate := IntWalk.i64_in _ (by omega)
                    have s4 : IntKind.i64.wrap (q.jobs[k].charge + (E - q.now) * W.rules.rate) = q.jobs[k].charge + (E - q.now) * W.rules.rate := IntWalk.i64_in _ (by omega)
                    go_cut [] (fun wd => Hid (WkS w wd R S J X W.jobs[k] KD k q.now E (stAfter W q k)))
                    case first =>
                      as_aux_lemma =>
                      go_region
                      go_wp2_with fail
                      go_meet
                      refine hid ?_
                      rw [Hst.out]
                      exact ⟨(by repeat (first | (with_reducible exact HB.out) | (with_reducible refine bdrewN ?_ _) | (with_reducible refine Below.drew ?_) | (with_reducible refine Below.setCell ?_ (by first | omega | (simp; done) | (simp; omega)) _) | (with_reducible refine Below.alloc ?_ (by first | omega | (simp; done) | (simp; omega)) _))), (by go_simp), ((Jb.out.setFar (by omega)).setFar (by omega)), ⟨by go_simp, by go_simp, by go_simp, by go_simp, by intro o; go_simp⟩, ⟨by go_simp, by go_simp, by go_simp, by go_simp, by go_simp, by intro o; go_simp⟩, (by first | omega | (simp; done) | (simp; omega)), (by first | omega | (simp; done) | (simp; omega)), (by first | omega | (simp; done) | (simp; omega))⟩
                    case rest =>
                      go_upto_region 17 with fail
                      obtain ⟨wb7, rfl⟩ : ∃ wb : World, wb = wc := ⟨_, rfl⟩
                      clear y0 y1 y2 y3 y4 y5 q1 q2 q3 q4 q5 a1 hc4
                      have WS7 := hcut; clear hcut
                      obtain ⟨hB7, a1, jb7, ⟨z0, z1, z2, z3, z4⟩, ⟨y0, y1, y2, y3, y4, y5⟩, hl7, hl8, hl9⟩ := WS7.out
                      have Hr := hid (HR.out.at hB7)
                      have c8 := Hr.out.c8
                      have gz := Hr.out.gz
                      have hR7 : R < wb7.heap.size := Hr.out.lt
                      have hg7 : g < wb7.heap.size := Hr.out.glt
                      have hl77 : w.heap.size < wb7.heap.size := by omega
                      obtain ⟨_, e1, e2, e3, e4, e5⟩ := RdSts.get Hr.out.rd hkl
                      simp only [Nat.zero_add] at e1 e2 e3 e4 e5
                      have HB7 := hid hB7; clear hB7 jb7
                      have hgS : S ≠ g := by have := hgl; omega
                      have hRS : S ≠ R := by have := hRl; omega
                      have hgX : ¬ g = X := by have := hgl; omega
                      have hgX2 : ¬ X = g := by have := hgl; omega
                      have hgS2 : ¬ g = S := by have := hgl; omega
                      have hNS : N ≤ S := by have := HR.out.gge; omega
                      go_region
                      have HP : Hid (RoomOf N w0 (putSt wb7 g k (stAfter W q k)) R g W ⟨q.now, q.jobs.set k (stAfter W q k)⟩ _ af cj cf cq) := hid (Hr.out.put hkl _)
                      have HKP : Hid (Kept R g w (putSt wb7 g k (stAfter W q k))) := hid ((Kept.of_below HB7.out).trans Kept.put)
                      unfold putSt at HP HKP
                      go_wp2_with fail
                      refine bodyPost_ret (v := .agg #[.int .i64 KD, .int .i64 (k : Int), .int .i64 q.now, .int .i64 E]) (res_c Try.results67 rfl (load_spell ?_ ?_ ?_ ?_)) rfl ⟨by rw [Hw2.out], ?_, ?_⟩
                      · go_simp
                      · go_simp
                      · go_simp
                      · go_simp
                      · rw [Hw2.out]; exact ((((HP.out.setFar hRS hgS hNS).setFar hRS hgS hNS).setFar hRS hgS hNS).setFar hRS hgS hNS).drew
                      · exact ((((HKP.out.setNew (by omega)).setNew (by omega)).setNew (by omega)).setNew (by omega)).drew
                | false =>
                  have Hw2 := hid (show workStep W q k = (⟨KD, k, q.now, E⟩, q.jobs.set k (stAfter W q k)) by rw [Hws.out]; simp)
                  clear Hws
                  go_upto_region 16 with fail
                  clear z0 z1 z2 z3 z4
                  obtain ⟨q1, q2, q3, q4, q5⟩ := SP6.out
                  have hc4 := (HR.out.at HB.out).c4
                  obtain ⟨y0, y1, y2, y3, y4, y5⟩ := St.out
                  obtain ⟨m1, m2⟩ := mul_bd (x := E - q.now) (r := W.rules.rate) (by omega) (by omega) b8 b9
                  have s2 : IntKind.i64.wrap (E - q.now) = E - q.now := IntWalk.i64_in _ (by omega)
                  have s3 : IntKind.i64.wrap ((E - q.now) * W.rules.rate) = (E - q.now) * W.rules.rate := IntWalk.i64_in _ (by omega)
                  have s4 : IntKind.i64.wrap (q.jobs[k].charge + (E - q.now) * W.rules.rate) = q.jobs[k].charge + (E - q.now) * W.rules.rate := IntWalk.i64_in _ (by omega)
                  go_cut [] (fun wd => Hid (WkS w wd R S J X W.jobs[k] KD k q.now E (stAfter W q k)))
                  case first =>
                    as_aux_lemma =>
                    go_region
                    go_wp2_with fail
                    go_meet
                    refine hid ?_
                    rw [Hst.out]
                    exact ⟨(by repeat (first | (with_reducible exact HB.out) | (with_reducible refine bdrewN ?_ _) | (with_reducible refine Below.drew ?_) | (with_reducible refine Below.setCell ?_ (by first | omega | (simp; done) | (simp; omega)) _) | (with_reducible refine Below.alloc ?_ (by first | omega | (simp; done) | (simp; omega)) _))), (by go_simp), ((Jb.out.setFar (by omega)).setFar (by omega)), ⟨by go_simp, by go_simp, by go_simp, by go_simp, by intro o; go_simp⟩, ⟨by go_simp, by go_simp, by go_simp, by go_simp, by go_simp, by intro o; go_simp⟩, (by first | omega | (simp; done) | (simp; omega)), (by first | omega | (simp; done) | (simp; omega)), (by first | omega | (simp; done) | (simp; omega))⟩
                  case rest =>
                    go_upto_region 17 with fail
                    obtain ⟨wb7, rfl⟩ : ∃ wb : World, wb = wc := ⟨_, rfl⟩
                    clear y0 y1 y2 y3 y4 y5 q1 q2 q3 q4 q5 a1 hc4
                    have WS7 := hcut; clear hcut
                    obtain ⟨hB7, a1, jb7, ⟨z0, z1, z2, z3, z4⟩, ⟨y0, y1, y2, y3, y4, y5⟩, hl7, hl8, hl9⟩ := WS7.out
                    have Hr := hid (HR.out.at hB7)
                    have c8 := Hr.out.c8
                    have gz := Hr.out.gz
                    have hR7 : R < wb7.heap.size := Hr.out.lt
                    have hg7 : g < wb7.heap.size := Hr.out.glt
                    have hl77 : w.heap.size < wb7.heap.size := by omega
                    obtain ⟨_, e1, e2, e3, e4, e5⟩ := RdSts.get Hr.out.rd hkl
                    simp only [Nat.zero_add] at e1 e2 e3 e4 e5
                    have HB7 := hid hB7; clear hB7 jb7
                    have hgS : S ≠ g := by have := hgl; omega
                    have hRS : S ≠ R := by have := hRl; omega
                    have hgX : ¬ g = X := by have := hgl; omega
                    have hgX2 : ¬ X = g := by have := hgl; omega
                    have hgS2 : ¬ g = S := by have := hgl; omega
                    have hNS : N ≤ S := by have := HR.out.gge; omega
                    go_region
                    have HP : Hid (RoomOf N w0 (putSt wb7 g k (stAfter W q k)) R g W ⟨q.now, q.jobs.set k (stAfter W q k)⟩ _ af cj cf cq) := hid (Hr.out.put hkl _)
                    have HKP : Hid (Kept R g w (putSt wb7 g k (stAfter W q k))) := hid ((Kept.of_below HB7.out).trans Kept.put)
                    unfold putSt at HP HKP
                    go_wp2_with fail
                    refine bodyPost_ret (v := .agg #[.int .i64 KD, .int .i64 (k : Int), .int .i64 q.now, .int .i64 E]) (res_c Try.results67 rfl (load_spell ?_ ?_ ?_ ?_)) rfl ⟨by rw [Hw2.out], ?_, ?_⟩
                    · go_simp
                    · go_simp
                    · go_simp
                    · go_simp
                    · rw [Hw2.out]; exact ((((HP.out.setFar hRS hgS hNS).setFar hRS hgS hNS).setFar hRS hgS hNS).setFar hRS hgS hNS).drew
                    · exact ((((HKP.out.setNew (by omega)).setNew (by omega)).setNew (by omega)).setNew (by omega)).drew

end Go.Proofs.Ytbjgebbfachgfaa
