/- Day: the program's. -/
import Derived.Test.YtbjgebbfachgfaacW39
import Derived.Test.YtbjgebbfachgfaacW36
import Derived.Test.YtbjgebbfachgfaacJ8
set_option linter.unusedVariables false
set_option linter.unusedSimpArgs false
set_option linter.unusedSectionVars false
set_option linter.all false
namespace Go.Proofs.Ytbjgebbfachgfaa
open Go.RowKit

theorem enterM_F {P : Program} {f : FuncId} {fn : Func} {c : Code} {args : Array Value} {w : World} {R : Ending → World → Prop} {n : Nat} (hf : P.funcs[f]? = some fn) (hb : fn.body = some c) (hn : fn.ntmps = n) (ha : args.size ≤ n)
    (h : ∀ s : Nat → Value, (∀ i, i < args.size → s i = args[i]?.getD undef) → c.wp P (bodyPostM Fence.wide 0 P fn R) (mkA n s []) w) : Calls P f args w R := by
  refine callsIn_wide.1 (callsIn_of_wp_marks (n := 0) hf hb trivial (wpIn_wide.2 ?_))
  rw [hn]
  have hmk := mkA_of { tmps := args ++ Array.replicate (n - args.size) undef, defers := [] } rfl
  have hsz : (args ++ Array.replicate (n - args.size) undef).size = n := by simp; omega
  rw [hmk]
  simp only [hsz]
  refine h _ fun i hi => ?_
  simp [Array.getD_eq_getD_getElem?, Array.getElem?_append_left, hi]
theorem retM_F {P : Program} {fn : Func} {R : Ending → World → Prop} {n : Nat} {s : Nat → Value} {w : World} (v : Value) (hr : (results fn (tmA n s)).run P w = .ok v w) (h : R (.returned v) w) : bodyPostM Fence.wide 0 P fn R .ret (mkA n s []) w := ⟨v, hr, h⟩
theorem retMark_F {P : Program} {fn : Func} {R : Ending → World → Prop} {n : Nat} {s : Nat → Value} {w : World} {D : Nat} (v : Value) (hD : w.heap[D]? = some (.deferred (some [])))
    (hr : (results fn (tmA n s)).run P (w.putObj D (.deferred none)) = .ok v (w.putObj D (.deferred none))) (h : R (.returned v) (w.putObj D (.deferred none))) : bodyPostM Fence.wide 0 P fn R .ret (mkA n s [{ target := .collected D, args := #[] }]) w :=
  ⟨by simp, .inl ⟨_, _, rfl, run_takeDeferred hD, v, hr, h⟩⟩

/- a world in which one block was put -/
theorem bel_put {N X : Nat} {w0 w : World} {o : Obj} (h : Below N w0 w) (hX : N ≤ X) : Below N w0 (w.putObj X o) :=
  ⟨h.os, h.tape, h.output, by rw [World.putObj_size]; exact h.size, fun k hk => by rw [World.putObj_heap_other (by omega)]; exact h.block k hk⟩
theorem Cells.put {w : World} {b X : Nat} {l : List Value} {o : Obj} (h : Cells w b l) (hn : b ≠ X) : Cells (w.putObj X o) b l := h.kept (World.putObj_heap_other hn) (by rw [World.putObj_size]; exact Nat.le_refl _)
theorem RoomOf.same {N : Nat} {w0 w w' : World} {R g : Nat} {W : Work} {q : Qu} {aj af : Option Addr} {cj cf cq : Nat} (h : RoomOf N w0 w R g W q aj af cj cf cq) (hb : Below N w0 w') (hR : w'.heap[R]? = w.heap[R]?) (hg : w'.heap[g]? = w.heap[g]?) (hs : w.heap.size ≤ w'.heap.size) : RoomOf N w0 w' R g W q aj af cj cf cq := by
  have e : ∀ o, w'.cell? ⟨R, o, none⟩ = w.cell? ⟨R, o, none⟩ := fun o => cell_block hR
  exact ⟨(e _).trans h.c0, (e _).trans h.c1, (e _).trans h.c2, (e _).trans h.c3, (e _).trans h.c4, (e _).trans h.c5, (e _).trans h.c6, (e _).trans h.c7, (e _).trans h.c8,
    fun o => (frozen_block hR).trans (h.fz o), Nat.lt_of_lt_of_le h.lt hs, h.ge, h.hN, h.wk0, hb, Nat.lt_of_lt_of_le h.glt hs, h.gge, h.gR, fun o => (frozen_block hg).trans (h.gz o), fun i x hi j v hj => (cell_block hg).trans (h.sts i x hi j v hj)⟩
theorem DInv.put {N : Nat} {w0 : World} {R g bm bu B4 B5 base X : Nat} {o : Obj} {W : Work} {till : Int} {aj af : Option Addr} {cj cf cq : Nat} {all lst : List Spell} {w : World} (h : DInv N w0 R g bm bu B4 B5 base W till aj af cj cf cq all lst w)
    (n0 : N ≤ X) (n1 : R ≠ X) (n2 : g ≠ X) (n3 : bm ≠ X) (n4 : bu ≠ X) (n5 : B4 ≠ X) (n6 : B5 ≠ X) (n7 : X < base) : DInv N w0 R g bm bu B4 B5 base W till aj af cj cf cq all lst (w.putObj X o) := by
  obtain ⟨q, m, v, h1, h2, h3, h4, h5, h6, h7⟩ := h
  refine ⟨q, m, v, h1, h2.same (bel_put h2.bel n0) (World.putObj_heap_other n1) (World.putObj_heap_other n2) (by rw [World.putObj_size]; exact Nat.le_refl _), h3.kept (fun b hb => ?_), h4.put n5, h5.put n6, h6.put n3, h7.put n4⟩
  have := World.ownsRow.lt h3 b hb
  exact World.putObj_heap_other (by omega)
theorem RoomOf.cells {N : Nat} {w0 w : World} {R g : Nat} {W : Work} {q : Qu} {aj af : Option Addr} {cj cf cq : Nat} (h : RoomOf N w0 w R g W q aj af cj cf cq) :
    Cells w R [.int .i64 W.rules.slice, .int .i64 W.rules.load, .int .i64 W.rules.dump, .int .i64 W.rules.patience, .int .i64 W.rules.rate, .slice aj W.jobs.length cj, .slice af W.faults.length cf, .int .i64 q.now, .slice (some ⟨g, 0, none⟩) q.jobs.length cq] := by
  refine ⟨h.lt, fun i v hv => ?_, h.fz⟩
  match i, hv with
  | 0, hv => cases hv; exact h.c0
  | 1, hv => cases hv; exact h.c1
  | 2, hv => cases hv; exact h.c2
  | 3, hv => cases hv; exact h.c3
  | 4, hv => cases hv; exact h.c4
  | 5, hv => cases hv; exact h.c5
  | 6, hv => cases hv; exact h.c6
  | 7, hv => cases hv; exact h.c7
  | 8, hv => cases hv; exact h.c8
theorem Rd.put {α : Type} {f : α → List Value} {m : Nat} {w : World} {X : Nat} {o : Obj} {a : Option Addr} {l : List α} (h : Rd f m w a l) (hn : ∀ b, a = some b → b.block ≠ X) : Rd f m (w.putObj X o) a l := by
  rcases h with h | ⟨b, off, ha, hlt, hc⟩
  · exact .inl h
  · exact .inr ⟨b, off, ha, by rw [World.putObj_size]; exact hlt, fun i x hi j v hj => (cell_block (World.putObj_heap_other (hn _ ha))).trans (hc i x hi j v hj)⟩
theorem zip1 {α β : Type} (k : α) (v : β) : (#[k].zip #[v]) = #[(k, v)] := by simp [Array.zip]
theorem foldl1 {α β : Type} (f : β → α → β) (b : β) (x : α) : Array.foldl f b #[x] 0 (#[x] : Array α).size = f b x := by simp
theorem loop_nil {W : Work} {till : Int} : ∀ (n : Nat) (q : Qu), (dayLoop W till n q).1 = [] → (dayLoop W till n q).2 = q
  | 0, q, _ => rfl
  | n + 1, q, h => by
    cases hc : (decide (q.now < till) && waits q.jobs) with
    | false => rw [day_stop hc]
    | true => rw [day_go hc] at h; cases h
theorem day_of {W : Work} {till : Int} {n : Nat} {xs : List Spell} {q : Qu} (hE : dayErr W till = 0) (h : DayI W till n xs q) (hF : ∃ q', dayLoop W till till.toNat (beginQ W) = (xs, q')) : day W till = (xs, q) := by
  obtain ⟨q', hF⟩ := hF
  have he := h.eq
  rw [hF] at he
  simp only [Prod.mk.injEq] at he
  have h1 : (dayLoop W till n q).1 = [] := by
    have := he.1
    exact List.append_cancel_left (show xs ++ (dayLoop W till n q).1 = xs ++ [] by rw [← this]; simp)
  unfold day
  rw [if_pos hE, hF, he.2, loop_nil n q h1]
theorem begJobs_ok {W : Work} (h : W.err = 0) : begJobs W = (beginQ W).jobs := by
  unfold begJobs; rw [if_pos h]; rfl

theorem Own.cap {α : Type} {f : α → List Value} {m : Nat} {T : TypeId} {base : Nat} {w : World} {a : Option Addr} {n c : Nat} {l : List α} (h : Own f m T base w (.slice a n c) l) : l.length ≤ c := by
  rcases h.2 with ⟨hv, hn⟩ | ⟨g, cap, cur, hv, _, _, hc, _⟩
  · omega
  · cases hv; exact hc
/-- .. and no more spells than the slice has room for -/
def DayCap (W : Work) (till : Int) (w : World) (e : Ending) (w' : World) : Prop := ∃ a c a' c', e = .returned (.tuple #[.slice a (day W till).1.length c, .agg #[.int .i64 (day W till).2.now, .slice a' (day W till).2.jobs.length c'], .int .i64 (dayErr W till)]) ∧
  RdSpells w' a (day W till).1 ∧ RdSts w' a' (day W till).2.jobs ∧ Below w.heap.size w w' ∧ (∀ b, a = some b → w.heap.size ≤ b.block) ∧ (∀ b, a' = some b → w.heap.size ≤ b.block) ∧ (day W till).1.length ≤ c

theorem load_spells {w : World} {b o : Nat} {x0 : Value} (h0 : w.cell? ⟨b, o, none⟩ = some x0) : (loadVar 44 ⟨b, o, none⟩).run Try.prog w = .ok x0 w := by simp [go_sem, h0]

set_option maxRecDepth 100000 in
/-- no job: no spell -/
theorem spells1_none (R bm bu D : Nat) (till now : Int) (a : Option Addr) (c : Nat) (W0 : World) (c7 : W0.cell? ⟨R, 7, none⟩ = some (.int .i64 now)) (c8 : W0.cell? ⟨R, 8, none⟩ = some (.slice a 0 c)) (hR : R < W0.heap.size)
    (km : Cells W0 bm [.pointer (some ⟨R, 0, none⟩)]) (ku : Cells W0 bu [.int .i64 till]) :
    Calls Try.prog 70 #[.func (.yield (D + 1)) #[] #[], .pointer (some ⟨bm, 0, none⟩), .pointer (some ⟨bu, 0, none⟩)] W0 fun e W' => (∃ v, e = .returned v) ∧ Below W0.heap.size W0 W' := by
  refine enter_F Try.func70 rfl Try.ntmps70 (by simp) ?_
  intro s hs
  have sl0 : s 0 = .func (.yield (D + 1)) #[] #[] := hs 0 (by simp)
  have sl1 : s 1 = .pointer (some ⟨bm, 0, none⟩) := hs 1 (by simp)
  have sl2 : s 2 = .pointer (some ⟨bu, 0, none⟩) := hs 2 (by simp)
  clear hs
  repeat (first | ((first | (refine listF_step rfl (fun K' hK => ?_)) | (refine listF_yes rfl rfl (by decide) ?_ (fun K' hK => ?_); (focus (go_simp; done)))); unfold opF; go_simp; (refine hK _ _ ?_); clear hK K') | (refine listF_no (b' := true) rfl rfl (by decide) ?_ ?_ ?_; (focus (go_simp; done)); (focus rfl)) | (refine listF_no (b' := false) rfl rfl (by decide) ?_ ?_ ?_; (focus (go_simp; done)); (focus rfl)) | (refine listF_nu rfl rfl (by decide) ?_ ?_; (focus (go_simp; done))) | (refine listF_nil ?_) | (refine region_F ?_) | (refine cond_F true ?_ ?_; (focus (go_simp; done)); simp only [if_true]) | (refine cond_F false ?_ ?_; (focus (go_simp; done)); simp only [Bool.false_eq_true, if_false]) | (with_reducible go_step))
  refine loop_F (n := 23) (fun k s wr => k = 0 ∧ s 0 = .func (.yield (D + 1)) #[] #[] ∧ s 1 = .pointer (some ⟨bm, 0, none⟩) ∧ s 2 = .pointer (some ⟨bu, 0, none⟩) ∧ wr = W0) (k0 := 0) ⟨rfl, sl0, sl1, sl2, rfl⟩ ?_
  clear sl0 sl1 sl2
  rintro k s wr ⟨rfl, sl0, sl1, sl2, rfl⟩
  have hm0 := km.cell 0 rfl
  have hu0 := ku.cell 0 rfl
  have hms := km.1
  have hus := ku.1
  have HW8 := hid (show ∀ wq, Below wr.heap.size wr wq → Calls Try.prog 54 #[.pointer (some ⟨R, 7, none⟩)] wq fun e w'' => e = .returned (.bool (waits [])) ∧ Below wr.heap.size wr w'' from fun wq hwq =>
    (qwaits_any R 7 a c [] wq (by simp) (.inl rfl) ((hwq.cell (p := ⟨R, 8, none⟩) hR).trans c8)).mono fun _ _ ⟨e1, e2⟩ => ⟨e1, hwq.trans (e2.mono hwq.size)⟩)
  have hw0 : waits [] = false := rfl
  rcases dec_or (now < till) with t1 | t1
  · repeat (first | ((first | (refine listF_step rfl (fun K' hK => ?_)) | (refine listF_yes rfl rfl (by decide) ?_ (fun K' hK => ?_); (focus (go_simp; done)))); unfold opF; go_simp; (refine hK _ _ ?_); clear hK K') | (refine listF_no (b' := true) rfl rfl (by decide) ?_ ?_ ?_; (focus (go_simp; done)); (focus rfl)) | (refine listF_no (b' := false) rfl rfl (by decide) ?_ ?_ ?_; (focus (go_simp; done)); (focus rfl)) | (refine listF_nu rfl rfl (by decide) ?_ ?_; (focus (go_simp; done))) | (refine listF_nil ?_) | (refine region_F ?_) | (refine cond_F true ?_ ?_; (focus (go_simp; done)); simp only [if_true]) | (refine cond_F false ?_ ?_; (focus (go_simp; done)); simp only [Bool.false_eq_true, if_false]) | (with_reducible go_step))
    refine regionQ_F (Below wr.heap.size wr) (by kernel_rfl) (by kernel_rfl) (Below.refl _ _).drew ?_
    repeat (first | (refine listQ_step (v := ?_) rfl ?_ ?_; rotate_left; (focus (intro wq hwq; obtain ⟨hcq, hfq⟩ := bcell hwq; go_simp; (first | rfl | (exact ⟨rfl, rfl⟩) | (exact HW8.out _ hwq))))) | (refine listQ_yes (v := ?_) rfl rfl (by decide) ?_ ?_ ?_; rotate_left; (focus (go_simp; done)); (focus (intro wq hwq; obtain ⟨hcq, hfq⟩ := bcell hwq; go_simp; (first | rfl | (exact ⟨rfl, rfl⟩) | (exact HW8.out _ hwq))))) | (refine listQ_no (b' := true) rfl rfl (by decide) ?_ ?_ ?_; (focus (go_simp; done)); (focus rfl)) | (refine listQ_no (b' := false) rfl rfl (by decide) ?_ ?_ ?_; (focus (go_simp; done)); (focus rfl)) | (refine listQ_nu rfl rfl (by decide) ?_ ?_; (focus (go_simp; done))) | (refine listQ_nil ?_))
    intro w2 hw2
    repeat (first | ((first | (refine listF_step rfl (fun K' hK => ?_)) | (refine listF_yes rfl rfl (by decide) ?_ (fun K' hK => ?_); (focus (go_simp; done)))); unfold opF; go_simp; (refine hK _ _ ?_); clear hK K') | (refine listF_no (b' := true) rfl rfl (by decide) ?_ ?_ ?_; (focus (go_simp; done)); (focus rfl)) | (refine listF_no (b' := false) rfl rfl (by decide) ?_ ?_ ?_; (focus (go_simp; done)); (focus rfl)) | (refine listF_nu rfl rfl (by decide) ?_ ?_; (focus (go_simp; done))) | (refine listF_nil ?_) | (refine region_F ?_) | (refine cond_F true ?_ ?_; (focus (go_simp; done)); simp only [if_true]) | (refine cond_F false ?_ ?_; (focus (go_simp; done)); simp only [Bool.false_eq_true, if_false]) | (with_reducible go_step))
    exact norm_F (.tuple #[]) (res0_F Try.results70) ⟨⟨_, rfl⟩, hw2⟩
  · repeat (first | ((first | (refine listF_step rfl (fun K' hK => ?_)) | (refine listF_yes rfl rfl (by decide) ?_ (fun K' hK => ?_); (focus (go_simp; done)))); unfold opF; go_simp; (refine hK _ _ ?_); clear hK K') | (refine listF_no (b' := true) rfl rfl (by decide) ?_ ?_ ?_; (focus (go_simp; done)); (focus rfl)) | (refine listF_no (b' := false) rfl rfl (by decide) ?_ ?_ ?_; (focus (go_simp; done)); (focus rfl)) | (refine listF_nu rfl rfl (by decide) ?_ ?_; (focus (go_simp; done))) | (refine listF_nil ?_) | (refine region_F ?_) | (refine cond_F true ?_ ?_; (focus (go_simp; done)); simp only [if_true]) | (refine cond_F false ?_ ?_; (focus (go_simp; done)); simp only [Bool.false_eq_true, if_false]) | (with_reducible go_step))
    refine regionQ_F (Below wr.heap.size wr) (by kernel_rfl) (by kernel_rfl) (Below.refl _ _).drew ?_
    repeat (first | (refine listQ_step (v := ?_) rfl ?_ ?_; rotate_left; (focus (intro wq hwq; obtain ⟨hcq, hfq⟩ := bcell hwq; go_simp; (first | rfl | (exact ⟨rfl, rfl⟩) | (exact HW8.out _ hwq))))) | (refine listQ_yes (v := ?_) rfl rfl (by decide) ?_ ?_ ?_; rotate_left; (focus (go_simp; done)); (focus (intro wq hwq; obtain ⟨hcq, hfq⟩ := bcell hwq; go_simp; (first | rfl | (exact ⟨rfl, rfl⟩) | (exact HW8.out _ hwq))))) | (refine listQ_no (b' := true) rfl rfl (by decide) ?_ ?_ ?_; (focus (go_simp; done)); (focus rfl)) | (refine listQ_no (b' := false) rfl rfl (by decide) ?_ ?_ ?_; (focus (go_simp; done)); (focus rfl)) | (refine listQ_nu rfl rfl (by decide) ?_ ?_; (focus (go_simp; done))) | (refine listQ_nil ?_))
    intro w2 hw2
    repeat (first | ((first | (refine listF_step rfl (fun K' hK => ?_)) | (refine listF_yes rfl rfl (by decide) ?_ (fun K' hK => ?_); (focus (go_simp; done)))); unfold opF; go_simp; (refine hK _ _ ?_); clear hK K') | (refine listF_no (b' := true) rfl rfl (by decide) ?_ ?_ ?_; (focus (go_simp; done)); (focus rfl)) | (refine listF_no (b' := false) rfl rfl (by decide) ?_ ?_ ?_; (focus (go_simp; done)); (focus rfl)) | (refine listF_nu rfl rfl (by decide) ?_ ?_; (focus (go_simp; done))) | (refine listF_nil ?_) | (refine region_F ?_) | (refine cond_F true ?_ ?_; (focus (go_simp; done)); simp only [if_true]) | (refine cond_F false ?_ ?_; (focus (go_simp; done)); simp only [Bool.false_eq_true, if_false]) | (with_reducible go_step))
    exact norm_F (.tuple #[]) (res0_F Try.results70) ⟨⟨_, rfl⟩, hw2⟩

set_option maxRecDepth 100000 in
set_option maxHeartbeats 20000000 in
theorem qDay_cap (W : Work) (till : Int) (aj af : Option Addr) (cj cf : Nat) (w : World) (hW : WorkIn w W aj af) :
    Calls Try.prog 24 #[.agg #[.int .i64 W.rules.slice, .int .i64 W.rules.load, .int .i64 W.rules.dump, .int .i64 W.rules.patience, .int .i64 W.rules.rate, .slice aj W.jobs.length cj, .slice af W.faults.length cf], .int .i64 till] w (DayCap W till w) := by
  obtain ⟨i0, hi0, hz0, hz1, hz2⟩ := info_parts info_spell
  have HW := hid hW
  clear hW
  refine enterM_F Try.func24 rfl Try.ntmps24 (by simp) ?_
  intro s hs
  have sl0 : s 0 = .agg #[.int .i64 W.rules.slice, .int .i64 W.rules.load, .int .i64 W.rules.dump, .int .i64 W.rules.patience, .int .i64 W.rules.rate, .slice aj W.jobs.length cj, .slice af W.faults.length cf] := hs 0 (by simp)
  have sl1 : s 1 = .int .i64 till := hs 1 (by simp)
  clear hs
  repeat (first | ((first | (refine listF_step rfl (fun K' hK => ?_)) | (refine listF_yes rfl rfl (by decide) ?_ (fun K' hK => ?_); (focus (go_simp; done)))); unfold opF; go_simp; (refine hK _ _ ?_); clear hK K') | (refine listF_no (b' := true) rfl rfl (by decide) ?_ ?_ ?_; (focus (go_simp; done)); (focus rfl)) | (refine listF_no (b' := false) rfl rfl (by decide) ?_ ?_ ?_; (focus (go_simp; done)); (focus rfl)) | (refine listF_nu rfl rfl (by decide) ?_ ?_; (focus (go_simp; done))) | (refine listF_nil ?_) | (refine region_F ?_) | (refine cond_F true ?_ ?_; (focus (go_simp; done)); simp only [if_true]) | (refine cond_F false ?_ ?_; (focus (go_simp; done)); simp only [Bool.false_eq_true, if_false]) | (with_reducible go_step))
  (refine listF_step rfl (fun K' hK => ?_); unfold opF; go_simp; refine (qBegin_any W aj af cj cf _ (HW.out.at (by repeat (first | (with_reducible exact Below.refl _ w) | (with_reducible refine bdrewN ?_ _) | (with_reducible refine Below.drew ?_) | (with_reducible refine Below.setCell ?_ (by first | omega | (simp; done) | (simp; omega)) _) | (with_reducible refine Below.alloc ?_ (by first | omega | (simp; done) | (simp; omega)) _))))).mono ?_; rintro e w2 ⟨v0, rfl, ho, hb2⟩; refine ⟨_, rfl, hK _ _ ?_⟩; clear hK K')
  have k0 : Cells w2 w.heap.size #[.int .i64 W.rules.slice, .int .i64 W.rules.load, .int .i64 W.rules.dump, .int .i64 W.rules.patience, .int .i64 W.rules.rate, .slice aj W.jobs.length cj, .slice af W.faults.length cf].toList := (((Cells.new rfl).up _).up _).at hb2
  have k4 : Cells w2 (w.heap.size + 1) [.slice none 0 0] := ((Cells.new (cs := #[.slice none 0 0]) (by first | omega | (simp; done) | (simp; omega))).up _).at hb2
  have k5 : Cells w2 (w.heap.size + 1 + 1) [.int .i64 0, .slice none 0 0] := (Cells.new (cs := #[.int .i64 0, .slice none 0 0]) (by first | omega | (simp; done) | (simp; omega))).at hb2
  have HB2 := hid (Below.trans (by repeat (first | (with_reducible exact Below.refl _ w) | (with_reducible refine bdrewN ?_ _) | (with_reducible refine Below.drew ?_) | (with_reducible refine Below.setCell ?_ (by first | omega | (simp; done) | (simp; omega)) _) | (with_reducible refine Below.alloc ?_ (by first | omega | (simp; done) | (simp; omega)) _))) (hb2.mono (by first | omega | (simp; done) | (simp; omega))) : Below w.heap.size w w2)
  have hs2 : w.heap.size + 1 + 1 < w2.heap.size := k5.1
  obtain ⟨a0, c0, rfl, hrd0, hfr0⟩ := Own.slice (f := St.cs) (m := 5) (fun _ => rfl) ho
  have hfr : ∀ b, a0 = some b → w.heap.size + 1 + 1 < b.block := fun b hb => by have := hfr0 b hb; simp at this; omega
  have Hfr := hid hfr
  have Hrd0 := hid hrd0
  have Ho := hid ho
  clear hfr0 hfr hrd0 ho hb2
  (refine listF_abs ?_; intro s' hs'; have gl1 := congrFun hs' 1; simp only [updS_some, updS_none, Nat.reduceEqDiff, ↓reduceIte] at gl1; (try rw [sl1] at gl1); have gl2 := congrFun hs' 2; simp only [updS_some, updS_none, Nat.reduceEqDiff, ↓reduceIte] at gl2; (try rw [sl2] at gl2); have gl4 := congrFun hs' 4; simp only [updS_some, updS_none, Nat.reduceEqDiff, ↓reduceIte] at gl4; (try rw [sl4] at gl4); have gl5 := congrFun hs' 5; simp only [updS_some, updS_none, Nat.reduceEqDiff, ↓reduceIte] at gl5; (try rw [sl5] at gl5); have gl12 := congrFun hs' 12; simp only [updS_some, updS_none, Nat.reduceEqDiff, ↓reduceIte] at gl12; (try rw [sl12] at gl12); clear hs'; (try clear sl1); (try clear sl2); (try clear sl4); (try clear sl5); (try clear sl12); have sl1 := gl1; clear gl1; have sl2 := gl2; clear gl2; have sl4 := gl4; clear gl4; have sl5 := gl5; clear gl5; have sl12 := gl12; clear gl12)
  repeat (first | ((first | (refine listF_step rfl (fun K' hK => ?_)) | (refine listF_yes rfl rfl (by decide) ?_ (fun K' hK => ?_); (focus (go_simp; done)))); unfold opF; go_simp; (refine hK _ _ ?_); clear hK K') | (refine listF_no (b' := true) rfl rfl (by decide) ?_ ?_ ?_; (focus (go_simp; done)); (focus rfl)) | (refine listF_no (b' := false) rfl rfl (by decide) ?_ ?_ ?_; (focus (go_simp; done)); (focus rfl)) | (refine listF_nu rfl rfl (by decide) ?_ ?_; (focus (go_simp; done))) | (refine listF_nil ?_) | (refine region_F ?_) | (refine cond_F true ?_ ?_; (focus (go_simp; done)); simp only [if_true]) | (refine cond_F false ?_ ?_; (focus (go_simp; done)); simp only [Bool.false_eq_true, if_false]) | (with_reducible go_step))
  refine wp_absw ?_
  intro w3 hw3
  have k7 : Cells w3 w2.heap.size [.int .i64 0, .slice a0 (begJobs W).length c0] := by rw [hw3]; exact Cells.new (cs := #[.int .i64 0, .slice a0 (begJobs W).length c0]) rfl
  have hb3 : Below w2.heap.size w2 w3 := by rw [hw3]; exact (by repeat (first | (with_reducible exact Below.refl _ w2) | (with_reducible refine bdrewN ?_ _) | (with_reducible refine Below.drew ?_) | (with_reducible refine Below.setCell ?_ (by first | omega | (simp; done) | (simp; omega)) _) | (with_reducible refine Below.alloc ?_ (by first | omega | (simp; done) | (simp; omega)) _)))
  replace k0 := k0.at hb3
  replace k4 := k4.at hb3
  replace k5 := k5.at hb3
  have Hrd3 := hid (Rd.at Hrd0.out hb3)
  have Ho3 := hid (Own.base (Own.at Ho.out hb3) (base' := w.heap.size + 1 + 1 + 1) (by simp))
  have HB3 := hid (HB2.out.trans (hb3.mono HB2.out.size) : Below w.heap.size w w3)
  have hB : w.heap.size + 1 + 1 < w2.heap.size := hs2
  have hs3 : w2.heap.size < w3.heap.size := k7.1
  have hgB : Hid (∀ b, a0 = some b → b.block < w2.heap.size) := hid fun b hb => by
    obtain ⟨_, h⟩ := World.ownsRow.lt Ho.out b.block (by rw [hb]; rfl)
    exact h
  clear hw3 hb3 HB2 Hrd0 Ho hs2
  (refine wp_abs ?_; intro s' hs'; have gl1 := congrFun hs' 1; simp only [updS_some, updS_none, Nat.reduceEqDiff, ↓reduceIte] at gl1; (try rw [sl1] at gl1); have gl2 := congrFun hs' 2; simp only [updS_some, updS_none, Nat.reduceEqDiff, ↓reduceIte] at gl2; (try rw [sl2] at gl2); have gl4 := congrFun hs' 4; simp only [updS_some, updS_none, Nat.reduceEqDiff, ↓reduceIte] at gl4; (try rw [sl4] at gl4); have gl5 := congrFun hs' 5; simp only [updS_some, updS_none, Nat.reduceEqDiff, ↓reduceIte] at gl5; (try rw [sl5] at gl5); have gl6 := congrFun hs' 6; simp only [updS_some, updS_none, Nat.reduceEqDiff, ↓reduceIte] at gl6; (try rw [sl6] at gl6); have gl7 := congrFun hs' 7; simp only [updS_some, updS_none, Nat.reduceEqDiff, ↓reduceIte] at gl7; (try rw [sl7] at gl7); have gl15 := congrFun hs' 15; simp only [updS_some, updS_none, Nat.reduceEqDiff, ↓reduceIte] at gl15; (try rw [sl15] at gl15); clear hs'; (try clear sl1); (try clear sl2); (try clear sl4); (try clear sl5); (try clear sl6); (try clear sl7); (try clear sl15); have sl1 := gl1; clear gl1; have sl2 := gl2; clear gl2; have sl4 := gl4; clear gl4; have sl5 := gl5; clear gl5; have sl6 := gl6; clear gl6; have sl7 := gl7; clear gl7; have sl15 := gl15; clear gl15)
  generalize w2.heap.size = B at *
  by_cases he : W.err = 0
  · have he2 : (W.err != 0) = false := by simp [he]
    have He := hid he
    have HK := hid (wok_of_err he)
    clear he
    rcases Bool.eq_false_or_eq_true (inb till 0 5000) with hin | hin
    · skip
      have hdE := hid (show dayErr W till = 0 by unfold dayErr; rw [if_pos He.out, if_pos hin])
      have ht := (inb_iff _ _ _).1 hin
      have c00 := k0.cell 0 rfl
      have c01 := k0.cell 1 rfl
      have c02 := k0.cell 2 rfl
      have c03 := k0.cell 3 rfl
      have c04 := k0.cell 4 rfl
      have c05 := k0.cell 5 rfl
      have c06 := k0.cell 6 rfl
      have q0 := k0.1
      have d0 := k7.cell 0 rfl
      have d1 := k7.cell 1 rfl
      repeat (first | ((first | (refine listF_step rfl (fun K' hK => ?_)) | (refine listF_yes rfl rfl (by decide) ?_ (fun K' hK => ?_); (focus (go_simp; done)))); unfold opF; go_simp; (first | (refine hK _ _ ?_) | ((go_at_call 46; refine (qout_any _ _ _ _).mono ?_; rintro e w' ⟨rfl, rfl⟩); refine ⟨_, rfl, hK _ _ ?_⟩)); clear hK K') | (refine listF_no (b' := true) rfl rfl (by decide) ?_ ?_ ?_; (focus (go_simp; done)); (focus rfl)) | (refine listF_no (b' := false) rfl rfl (by decide) ?_ ?_ ?_; (focus (go_simp; done)); (focus rfl)) | (refine listF_nu rfl rfl (by decide) ?_ ?_; (focus (go_simp; done))) | (refine listF_nil ?_) | (refine region_F ?_) | (refine cond_F true ?_ ?_; (focus (go_simp; done)); simp only [if_true]) | (refine cond_F false ?_ ?_; (focus (go_simp; done)); simp only [Bool.false_eq_true, if_false]) | (with_reducible go_step))
      refine listF_absw ?_
      intro w4 hw4
      have kR : Cells w4 w3.heap.size [.int .i64 W.rules.slice, .int .i64 W.rules.load, .int .i64 W.rules.dump, .int .i64 W.rules.patience, .int .i64 W.rules.rate, .slice aj W.jobs.length cj, .slice af W.faults.length cf, .int .i64 0, .slice a0 (begJobs W).length c0] := by rw [hw4]; exact Cells.new rfl
      have hb4 : Below w3.heap.size w3 w4 := by rw [hw4]; exact (by repeat (first | (with_reducible exact Below.refl _ w3) | (with_reducible refine bdrewN ?_ _) | (with_reducible refine Below.drew ?_) | (with_reducible refine Below.setCell ?_ (by first | omega | (simp; done) | (simp; omega)) _) | (with_reducible refine Below.alloc ?_ (by first | omega | (simp; done) | (simp; omega)) _)))
      have hs4 : w4.heap.size = w3.heap.size + 1 := by rw [hw4]; simp
      replace k4 := k4.at hb4
      replace k5 := k5.at hb4
      have Hrd4 := hid (Rd.at Hrd3.out hb4)
      have Ho4 := hid (Own.at Ho3.out hb4)
      have HB4 := hid (HB3.out.trans (hb4.mono HB3.out.size) : Below w.heap.size w w4)
      clear hw4 hb4 HB3 c00 c01 c02 c03 c04 c05 c06 q0 d0 d1 Hrd3 Ho3 k7 k0
      (refine listF_abs ?_; intro s' hs'; have gl1 := congrFun hs' 1; simp only [updS_some, updS_none, Nat.reduceEqDiff, ↓reduceIte] at gl1; (try rw [sl1] at gl1); have gl4 := congrFun hs' 4; simp only [updS_some, updS_none, Nat.reduceEqDiff, ↓reduceIte] at gl4; (try rw [sl4] at gl4); have gl5 := congrFun hs' 5; simp only [updS_some, updS_none, Nat.reduceEqDiff, ↓reduceIte] at gl5; (try rw [sl5] at gl5); have gl8 := congrFun hs' 8; simp only [updS_some, updS_none, Nat.reduceEqDiff, ↓reduceIte] at gl8; (try rw [sl8] at gl8); have gl29 := congrFun hs' 29; simp only [updS_some, updS_none, Nat.reduceEqDiff, ↓reduceIte] at gl29; (try rw [sl29] at gl29); have gl30 := congrFun hs' 30; simp only [updS_some, updS_none, Nat.reduceEqDiff, ↓reduceIte] at gl30; (try rw [sl30] at gl30); clear hs'; (try clear sl1); (try clear sl4); (try clear sl5); (try clear sl8); (try clear sl29); (try clear sl30); have sl1 := gl1; clear gl1; have sl4 := gl4; clear gl4; have sl5 := gl5; clear gl5; have sl8 := gl8; clear gl8; have sl29 := gl29; clear gl29; have sl30 := gl30; clear gl30)
      (refine listF_step rfl (fun K' hK => ?_); unfold opF; go_simp; refine (spells_any w3.heap.size till _).mono ?_; rintro e w5 ⟨rfl, km, ku, hb5, hs5⟩; refine ⟨_, rfl, hK _ _ ?_⟩; clear hK K')
      (refine listF_abs ?_; intro s' hs'; have gl4 := congrFun hs' 4; simp only [updS_some, updS_none, Nat.reduceEqDiff, ↓reduceIte] at gl4; (try rw [sl4] at gl4); have gl5 := congrFun hs' 5; simp only [updS_some, updS_none, Nat.reduceEqDiff, ↓reduceIte] at gl5; (try rw [sl5] at gl5); have gl8 := congrFun hs' 8; simp only [updS_some, updS_none, Nat.reduceEqDiff, ↓reduceIte] at gl8; (try rw [sl8] at gl8); have gl31 := congrFun hs' 31; simp only [updS_some, updS_none, Nat.reduceEqDiff, ↓reduceIte] at gl31; (try rw [sl31] at gl31); clear hs'; (try clear sl4); (try clear sl5); (try clear sl8); (try clear sl31); have sl4 := gl4; clear gl4; have sl5 := gl5; clear gl5; have sl8 := gl8; clear gl8; have sl31 := gl31; clear gl31)
      repeat (first | ((first | (refine listF_step rfl (fun K' hK => ?_)) | (refine listF_yes rfl rfl (by decide) ?_ (fun K' hK => ?_); (focus (go_simp; done)))); unfold opF; go_simp; (refine hK _ _ ?_); clear hK K') | (refine listF_no (b' := true) rfl rfl (by decide) ?_ ?_ ?_; (focus (go_simp; done)); (focus rfl)) | (refine listF_no (b' := false) rfl rfl (by decide) ?_ ?_ ?_; (focus (go_simp; done)); (focus rfl)) | (refine listF_nu rfl rfl (by decide) ?_ ?_; (focus (go_simp; done))) | (refine listF_nil ?_) | (refine region_F ?_) | (refine cond_F true ?_ ?_; (focus (go_simp; done)); simp only [if_true]) | (refine cond_F false ?_ ?_; (focus (go_simp; done)); simp only [Bool.false_eq_true, if_false]) | (with_reducible go_step))
      have hD : w5.heap.size = w3.heap.size + 3 := by omega
      replace k4 := k4.low hb5 k4.1
      replace k5 := k5.low hb5 k5.1
      replace kR := kR.low hb5 kR.1
      have HB5 := hid (HB4.out.trans (hb5.mono HB4.out.size) : Below w.heap.size w w5)
      have Hrd5 := hid (Rd.at Hrd4.out hb5)
      have Ho5 := hid (Own.at Ho4.out hb5)
      clear Hrd4 HB4 sl1 sl29 sl30 sl2 sl6 sl15 sl7 sl12 sl0 Ho4
      rename_i KA hKA s9x
      rw [hs4] at *
      generalize w3.heap.size = R at *
      generalize hDD : w5.heap.size = D at *
      have hfin : ∀ (s1 : Nat → Value) (wy : World) (xs : List Spell) (q : Qu) (v : Value) (ag : Option Addr) (cg : Nat), s1 4 = .pointer (some ⟨w.heap.size + 1, 0, none⟩) → s1 5 = .pointer (some ⟨w.heap.size + 1 + 1, 0, none⟩) → s1 8 = .pointer (some ⟨R, 0, none⟩) →
          Hid (day W till = (xs, q)) → Cells wy (w.heap.size + 1) [v] → Cells wy (w.heap.size + 1 + 1) [.int .i64 0, .slice none 0 0] → Cells wy R [.int .i64 W.rules.slice, .int .i64 W.rules.load, .int .i64 W.rules.dump, .int .i64 W.rules.patience, .int .i64 W.rules.rate, .slice aj W.jobs.length cj, .slice af W.faults.length cf, .int .i64 q.now, .slice ag q.jobs.length cg] → OwnSpells (D + 2) wy v xs → RdSts wy ag q.jobs → (∀ b, ag = some b → w.heap.size + 1 + 1 < b.block ∧ b.block ≠ D ∧ b.block ≠ R) → Below w.heap.size w wy → wy.heap[D]? = some (.deferred (some [])) →
          KA (mkA 43 s1 [{ target := .collected D, args := #[] }]) wy := by
        intro s1 wy xs q v ag cg sl4 sl5 sl8 Hday h4 h5 hR hO hq hag hB hDe
        refine hKA _ _ ?_
        obtain ⟨av, cv, rfl, hrd, hav⟩ := Own.slice (f := Spell.cs) (m := 4) (fun _ => rfl) hO
        have HO := hid hO
        have Hq := hid hq
        have Hag := hid hag
        have HBy := hid hB
        have Hrd := hid hrd
        have Hav := hid hav
        have hDl : D < wy.heap.size := (Array.getElem?_eq_some_iff.1 hDe).1
        have HDe := hid hDe
        have hq1 := hR.1
        have hq2 := h4.1
        have hq3 := h5.1
        have p1 : ¬ w.heap.size + 1 = R := by omega
        have p2 : ¬ w.heap.size + 1 + 1 = R := by omega
        have p3 : ¬ R = w.heap.size + 1 := by omega
        have p4 : ¬ R = w.heap.size + 1 + 1 := by omega
        clear hO hq hag hB hrd hav hDe
        repeat (first | ((first | (refine listF_step rfl (fun K' hK => ?_)) | (refine listF_yes rfl rfl (by decide) ?_ (fun K' hK => ?_); (focus (go_simp; done)))); unfold opF; go_simp; (refine hK _ _ ?_); clear hK K') | (refine listF_no (b' := true) rfl rfl (by decide) ?_ ?_ ?_; (focus (go_simp; done)); (focus rfl)) | (refine listF_no (b' := false) rfl rfl (by decide) ?_ ?_ ?_; (focus (go_simp; done)); (focus rfl)) | (refine listF_nu rfl rfl (by decide) ?_ ?_; (focus (go_simp; done))) | (refine listF_nil ?_) | (refine region_F ?_) | (refine cond_F true ?_ ?_; (focus (go_simp; done)); simp only [if_true]) | (refine cond_F false ?_ ?_; (focus (go_simp; done)); simp only [Bool.false_eq_true, if_false]) | (with_reducible go_step))
        refine regionR_F [(w.heap.size + 1), (w.heap.size + 1 + 1), R] [[.slice av xs.length cv], [.int .i64 0, .slice none 0 0], [.int .i64 W.rules.slice, .int .i64 W.rules.load, .int .i64 W.rules.dump, .int .i64 W.rules.patience, .int .i64 W.rules.rate, .slice aj W.jobs.length cj, .slice af W.faults.length cf, .int .i64 q.now, .slice ag q.jobs.length cg]] [9, 10, 11] [.q [9], .q [], .q [], .q [], .q [], .q [11], .st 9, .st 10] [?v1_0, ?v1_1, ?v1_2, ?v1_3, ?v1_4, ?v1_5, fun _ => undef, fun _ => undef] [fun _ => [], fun _ => [], fun _ => [], fun _ => [], fun _ => [], fun _ => [], ?c1_6, ?c1_7] (by kernel_rfl) (by kernel_rfl) (by kernel_rfl) (by kernel_rfl) (by kernel_rfl) (by first | exact List.nodup_nil | exact List.nodup_singleton _ | (simp; done) | (simp; omega)) (bc_cons (by repeat (first | (with_reducible exact h4) | (with_reducible refine Cells.drew ?_) | (with_reducible refine Cells.up ?_ _) | (with_reducible refine Cells.setFar ?_ (by omega)))) (bc_cons (by repeat (first | (with_reducible exact h5) | (with_reducible refine Cells.drew ?_) | (with_reducible refine Cells.up ?_ _) | (with_reducible refine Cells.setFar ?_ (by omega)))) (bc_cons (by repeat (first | (with_reducible exact hR) | (with_reducible refine Cells.drew ?_) | (with_reducible refine Cells.up ?_ _) | (with_reducible refine Cells.setFar ?_ (by omega)))) bc_nil))) ?walk1 ?dep1
        case' walk1 =>
          refine walkR_q (by rfl) (fun X hX wq hwq hrq => ?_) ?_
          · obtain ⟨hcq, hfq⟩ := hwq.b3
            have kq9 := hrq 9 (by simp)
            rw [show X 9 = (w.heap.size + 1) from hX.at0 0 _ rfl] at kq9
            replace kq9 : Cells wq (w.heap.size + 1) [.slice av xs.length cv] := kq9
            have kqs9 := kq9.1
            have kq9_0 := kq9.cell 0 rfl
            clear hrq
            go_simp
            (first | rfl | exact ⟨rfl, rfl⟩)
          refine walkR_q (by rfl) (fun X hX wq hwq hrq => ?_) ?_
          · obtain ⟨hcq, hfq⟩ := hwq.b3
            clear hrq
            go_simp
            (first | rfl | exact ⟨rfl, rfl⟩)
          refine walkR_q (by rfl) (fun X hX wq hwq hrq => ?_) ?_
          · obtain ⟨hcq, hfq⟩ := hwq.b3
            clear hrq
            go_simp
            (first | rfl | exact ⟨rfl, rfl⟩)
          refine walkR_q (by rfl) (fun X hX wq hwq hrq => ?_) ?_
          · obtain ⟨hcq, hfq⟩ := hwq.b3
            clear hrq
            go_simp
            (first | rfl | exact ⟨rfl, rfl⟩)
          refine walkR_q (by rfl) (fun X hX wq hwq hrq => ?_) ?_
          · obtain ⟨hcq, hfq⟩ := hwq.b3
            clear hrq
            go_simp
            (first | rfl | exact ⟨rfl, rfl⟩)
          refine walkR_q (by rfl) (fun X hX wq hwq hrq => ?_) ?_
          · obtain ⟨hcq, hfq⟩ := hwq.b3
            have kq11 := hrq 11 (by simp)
            rw [show X 11 = R from hX.at0 2 _ rfl] at kq11
            replace kq11 : Cells wq R [.int .i64 W.rules.slice, .int .i64 W.rules.load, .int .i64 W.rules.dump, .int .i64 W.rules.patience, .int .i64 W.rules.rate, .slice aj W.jobs.length cj, .slice af W.faults.length cf, .int .i64 q.now, .slice ag q.jobs.length cg] := kq11
            have kqs11 := kq11.1
            have kq11_0 := kq11.cell 0 rfl
            have kq11_1 := kq11.cell 1 rfl
            have kq11_2 := kq11.cell 2 rfl
            have kq11_3 := kq11.cell 3 rfl
            have kq11_4 := kq11.cell 4 rfl
            have kq11_5 := kq11.cell 5 rfl
            have kq11_6 := kq11.cell 6 rfl
            have kq11_7 := kq11.cell 7 rfl
            have kq11_8 := kq11.cell 8 rfl
            clear hrq
            go_simp
            (first | rfl | exact ⟨rfl, rfl⟩)
          refine walkR_st (by rfl) (fun X hX wq hwq hkq => ?_) ?_
          · rw [show X 9 = (w.heap.size + 1) from hX.at0 0 _ rfl] at hkq ⊢
            replace hkq : Cells wq (w.heap.size + 1) [.slice av xs.length cv] := hkq
            have hks := hkq.1
            have hkz := hkq.2.2
            have hk0 := hkq.cell 0 rfl
            go_simp
            (first | ((with_reducible refine writeB_mk (Cells.set hkq) ?_ ?_); (focus (repeat (first | (with_reducible exact Only.refl _ _) | (with_reducible refine Only.set ?_)))); rfl) | ((with_reducible refine writeB_mk (Cells.set (Cells.set hkq)) ?_ ?_); (focus (repeat (first | (with_reducible exact Only.refl _ _) | (with_reducible refine Only.set ?_)))); rfl) | ((with_reducible refine writeB_mk (Cells.set (Cells.set (Cells.set hkq))) ?_ ?_); (focus (repeat (first | (with_reducible exact Only.refl _ _) | (with_reducible refine Only.set ?_)))); rfl) | ((with_reducible refine writeB_mk (Cells.set (Cells.set (Cells.set (Cells.set hkq)))) ?_ ?_); (focus (repeat (first | (with_reducible exact Only.refl _ _) | (with_reducible refine Only.set ?_)))); rfl) | ((with_reducible refine writeB_mk (Cells.set (Cells.set (Cells.set (Cells.set (Cells.set hkq))))) ?_ ?_); (focus (repeat (first | (with_reducible exact Only.refl _ _) | (with_reducible refine Only.set ?_)))); rfl) | ((with_reducible refine writeB_mk (Cells.set (Cells.set (Cells.set (Cells.set (Cells.set (Cells.set hkq)))))) ?_ ?_); (focus (repeat (first | (with_reducible exact Only.refl _ _) | (with_reducible refine Only.set ?_)))); rfl) | ((with_reducible refine writeB_mk (Cells.set (Cells.set (Cells.set (Cells.set (Cells.set (Cells.set (Cells.set hkq))))))) ?_ ?_); (focus (repeat (first | (with_reducible exact Only.refl _ _) | (with_reducible refine Only.set ?_)))); rfl) | ((with_reducible refine writeB_mk (Cells.set (Cells.set (Cells.set (Cells.set (Cells.set (Cells.set (Cells.set (Cells.set hkq)))))))) ?_ ?_); (focus (repeat (first | (with_reducible exact Only.refl _ _) | (with_reducible refine Only.set ?_)))); rfl))
          refine walkR_st (by rfl) (fun X hX wq hwq hkq => ?_) ?_
          · rw [show X 10 = (w.heap.size + 1 + 1) from hX.at0 1 _ rfl] at hkq ⊢
            replace hkq : Cells wq (w.heap.size + 1 + 1) [.int .i64 0, .slice none 0 0] := hkq
            have hks := hkq.1
            have hkz := hkq.2.2
            have hk0 := hkq.cell 0 rfl
            have hk1 := hkq.cell 1 rfl
            go_simp
            (first | ((with_reducible refine writeB_mk (Cells.set hkq) ?_ ?_); (focus (repeat (first | (with_reducible exact Only.refl _ _) | (with_reducible refine Only.set ?_)))); rfl) | ((with_reducible refine writeB_mk (Cells.set (Cells.set hkq)) ?_ ?_); (focus (repeat (first | (with_reducible exact Only.refl _ _) | (with_reducible refine Only.set ?_)))); rfl) | ((with_reducible refine writeB_mk (Cells.set (Cells.set (Cells.set hkq))) ?_ ?_); (focus (repeat (first | (with_reducible exact Only.refl _ _) | (with_reducible refine Only.set ?_)))); rfl) | ((with_reducible refine writeB_mk (Cells.set (Cells.set (Cells.set (Cells.set hkq)))) ?_ ?_); (focus (repeat (first | (with_reducible exact Only.refl _ _) | (with_reducible refine Only.set ?_)))); rfl) | ((with_reducible refine writeB_mk (Cells.set (Cells.set (Cells.set (Cells.set (Cells.set hkq))))) ?_ ?_); (focus (repeat (first | (with_reducible exact Only.refl _ _) | (with_reducible refine Only.set ?_)))); rfl) | ((with_reducible refine writeB_mk (Cells.set (Cells.set (Cells.set (Cells.set (Cells.set (Cells.set hkq)))))) ?_ ?_); (focus (repeat (first | (with_reducible exact Only.refl _ _) | (with_reducible refine Only.set ?_)))); rfl) | ((with_reducible refine writeB_mk (Cells.set (Cells.set (Cells.set (Cells.set (Cells.set (Cells.set (Cells.set hkq))))))) ?_ ?_); (focus (repeat (first | (with_reducible exact Only.refl _ _) | (with_reducible refine Only.set ?_)))); rfl) | ((with_reducible refine writeB_mk (Cells.set (Cells.set (Cells.set (Cells.set (Cells.set (Cells.set (Cells.set (Cells.set hkq)))))))) ?_ ?_); (focus (repeat (first | (with_reducible exact Only.refl _ _) | (with_reducible refine Only.set ?_)))); rfl))
          refine walkR_nil (fun X hX wz hwz hcz => ?_)
          have kz0 := hcz 9 (by simp)
          rw [show X 9 = (w.heap.size + 1) from hX.at0 0 _ rfl] at kz0
          simp only [updC_some, updC_none, Nat.reduceEqDiff, ↓reduceIte] at kz0
          have kz1 := hcz 10 (by simp)
          rw [show X 10 = (w.heap.size + 1 + 1) from hX.at0 1 _ rfl] at kz1
          simp only [updC_some, updC_none, Nat.reduceEqDiff, ↓reduceIte] at kz1
          have kz2 := hcz 11 (by simp)
          rw [show X 11 = R from hX.at0 2 _ rfl] at kz2
          replace kz2 : Cells wz R [.int .i64 W.rules.slice, .int .i64 W.rules.load, .int .i64 W.rules.dump, .int .i64 W.rules.patience, .int .i64 W.rules.rate, .slice aj W.jobs.length cj, .slice af W.faults.length cf, .int .i64 q.now, .slice ag q.jobs.length cg] := kz2
          clear hX hcz
          (try clear X)
        case dep1 =>
          refine depR_cons (fun X X' h => ?_) ?_
          · (first | exact ⟨rfl, rfl⟩)
          refine depR_cons (fun X X' h => ?_) ?_
          · (first | exact ⟨rfl, rfl⟩)
          refine depR_cons (fun X X' h => ?_) ?_
          · (first | exact ⟨rfl, rfl⟩)
          refine depR_cons (fun X X' h => ?_) ?_
          · (first | exact ⟨rfl, rfl⟩)
          refine depR_cons (fun X X' h => ?_) ?_
          · (first | exact ⟨rfl, rfl⟩)
          refine depR_cons (fun X X' h => ?_) ?_
          · (first | exact ⟨rfl, rfl⟩)
          refine depR_cons (fun X X' h => ?_) ?_
          · (first | exact ⟨rfl, rfl⟩)
          refine depR_cons (fun X X' h => ?_) ?_
          · (first | exact ⟨rfl, rfl⟩)
          exact depR_nil
        repeat (first | ((first | (refine listF_step rfl (fun K' hK => ?_)) | (refine listF_yes rfl rfl (by decide) ?_ (fun K' hK => ?_); (focus (go_simp; done)))); unfold opF; go_simp; (refine hK _ _ ?_); clear hK K') | (refine listF_no (b' := true) rfl rfl (by decide) ?_ ?_ ?_; (focus (go_simp; done)); (focus rfl)) | (refine listF_no (b' := false) rfl rfl (by decide) ?_ ?_ ?_; (focus (go_simp; done)); (focus rfl)) | (refine listF_nu rfl rfl (by decide) ?_ ?_; (focus (go_simp; done))) | (refine listF_nil ?_) | (refine region_F ?_) | (refine cond_F true ?_ ?_; (focus (go_simp; done)); simp only [if_true]) | (refine cond_F false ?_ ?_; (focus (go_simp; done)); simp only [Bool.false_eq_true, if_false]) | (with_reducible go_step))
        have hDz : wz.heap[D]? = some (.deferred (some [])) := (hwz.block D hDl (by simp; omega)).trans HDe.out
        refine retMark_F (.tuple #[.slice av xs.length cv, .agg #[.int .i64 q.now, .slice ag q.jobs.length cg], .int .i64 0]) hDz (res_cct (ad := ⟨w.heap.size + 1, 0, none⟩) (ad2 := ⟨w.heap.size + 1 + 1, 0, none⟩) Try.results24 ((getD_F (by simp)).trans (by go_simp)) ((getD_F (by simp)).trans (by go_simp)) (load_spells ((kz0.put (by omega)).cell 0 rfl)) (load_qu ((kz1.put (by omega)).cell 0 rfl) ((kz1.put (by omega)).cell 1 rfl)) ((getD_F (by simp)).trans (by go_simp))) ?_
        refine ⟨av, cv, ag, cg, by rw [Hday.out, hdE.out], ?_, ?_, ?_, fun b hb => by have := Hav.out b hb; omega, fun b hb => by have := (Hag.out b hb).1; omega, by rw [Hday.out]; exact Own.cap HO.out⟩
        · rw [Hday.out]; exact Rd.put (Rd.old Hrd.out hwz (fun b hb => by have := Hav.out b hb; simp; omega)) (fun b hb => by have := Hav.out b hb; omega)
        · rw [Hday.out]; exact Rd.put (Rd.old Hq.out hwz (fun b hb => by have := Hag.out b hb; simp; omega)) (fun b hb => (Hag.out b hb).2.1)
        · exact bel_put (HBy.out.trans (hwz.low (N := w.heap.size) (by have := HBy.out.size; omega) (by simp; omega))) (by omega)
      clear hKA
      by_cases hne : 0 < W.jobs.length
      · have hbj : begJobs W = (beginQ W).jobs := begJobs_ok He.out
        rw [hbj] at Hrd5 Ho5 kR
        obtain ⟨g, cap, hv⟩ := own_pos' Ho5.out (by simpa [beginQ] using hne)
        obtain ⟨rfl, rfl⟩ : a0 = some ⟨g, 0, none⟩ ∧ c0 = cap := by cases hv; exact ⟨rfl, rfl⟩
        have hg1 := hgB.out _ rfl
        have hg0 := Hfr.out _ rfl
        have hg1 : g < B := hg1
        have hg0 : w.heap.size + 1 + 1 < g := hg0
        have hRo : RoomOf w.heap.size w w5 R g W (beginQ W) aj af cj cf c0 :=
          ⟨kR.cell 0 rfl, kR.cell 1 rfl, kR.cell 2 rfl, kR.cell 3 rfl, kR.cell 4 rfl, kR.cell 5 rfl, kR.cell 6 rfl, kR.cell 7 rfl, kR.cell 8 rfl, kR.2.2, kR.1, by omega, rfl, HW.out, HB5.out, by omega, by omega, by omega,
            Own.frozen Ho5.out, Own.cells0 (f := St.cs) (m := 5) (fun _ => rfl) Ho5.out⟩
        have HRo := hid hRo
        clear hRo hv Hrd5 Ho5 kR Hfr hgB hbj
        refine wp_range_j (enc := fun x : Spell => .agg #[.int .i64 x.kind, .int .i64 x.job, .int .i64 x.from0, .int .i64 x.until0]) (gf := 70) (lb := #[.pointer (some ⟨R + 1, 0, none⟩), .pointer (some ⟨R + 1 + 1, 0, none⟩)]) ?hg ?eg rfl
          (fun pre wr => DInv w.heap.size w R g (R + 1) (R + 1 + 1) (w.heap.size + 1) (w.heap.size + 1 + 1) (D + 2) W till aj af cj cf c0 pre pre wr)
          (fun pre x wr => DInv w.heap.size w R g (R + 1) (R + 1 + 1) (w.heap.size + 1) (w.heap.size + 1 + 1) (D + 2) W till aj af cj cf c0 (pre ++ [x]) pre wr)
          (fun xs => ∃ q, dayLoop W till till.toNat (beginQ W) = (xs, q)) ?hJ ?h0 ?hiter ?hround ?hdone
        case hg => rw [mkA_eval]; go_simp
        case eg => intro args w; rfl
        case hJ => 
          intro pre Wx r r' h _
          exact h.put (by omega) (by omega) (by omega) (by omega) (by omega) (by omega) (by omega) (by omega)
        case h0 =>
          intro r
          refine DInv.below (w := w5) ?_ (((Below.refl _ _).alloc (Nat.le_refl _) _).alloc (by simp) _)
          exact ⟨beginQ W, till.toNat, .slice none 0 0, DayI.start HK.out, HRo.out, Own.nil _ _ _ _ _, k4, k5, km, ku⟩
        case hiter =>
          intro r Wx hJx hLx hy
          rw [hDD] at hLx hy ⊢
          exact spells1_any w.heap.size w R g (R + 1) (R + 1 + 1) (w.heap.size + 1) (w.heap.size + 1 + 1) D W till aj af cj cf c0 HK.out ht.1 ht.2 (by omega) (by omega) (by omega) (by omega) (by omega) (by omega) (by omega) (by omega) (by omega) (by omega) (by omega) (by omega) (by omega) (by omega) r Wx hJx hLx hy
        case hround =>
          intro pre x Wx r hMx hLx
          rw [hDD] at hLx ⊢
          simp only [zip1, foldl1, mkA_tmps, mkA_fold]
          have hxl : D + 1 < Wx.heap.size := (Array.getElem?_eq_some_iff.1 hLx.1).1
          refine region_FI (ρ := some (D + 1)) ?_ ?_
          · rfl
          repeat (first | ((first | (refine listF_step rfl (fun K' hK => ?_)) | (refine listF_yes rfl rfl (by decide) ?_ (fun K' hK => ?_); (focus (go_simp; done)))); unfold opF; go_simp; (refine hK _ _ ?_); clear hK K') | (refine listF_no (b' := true) rfl rfl (by decide) ?_ ?_ ?_; (focus (go_simp; done)); (focus rfl)) | (refine listF_no (b' := false) rfl rfl (by decide) ?_ ?_ ?_; (focus (go_simp; done)); (focus rfl)) | (refine listF_nu rfl rfl (by decide) ?_ ?_; (focus (go_simp; done))) | (refine listF_nil ?_) | (refine region_F ?_) | (refine cond_F true ?_ ?_; (focus (go_simp; done)); simp only [if_true]) | (refine cond_F false ?_ ?_; (focus (go_simp; done)); simp only [Bool.false_eq_true, if_false]) | (with_reducible go_step))
          have hba : Below Wx.heap.size Wx (Wx.alloc (.cells #[.int .i64 x.kind, .int .i64 x.job, .int .i64 x.from0, .int .i64 x.until0] 40)) := (Below.refl _ _).alloc (Nat.le_refl _) _
          refine ⟨hLx.at hba, fun r' => ?_⟩
          have hLb := (hLx.at hba).put (r' := r')
          have hMb := (hMx.below hba).put (X := D + 1) (o := .loop r') (by omega) (by omega) (by omega) (by omega) (by omega) (by omega) (by omega) (by omega)
          have kS : Cells ((Wx.alloc (.cells #[.int .i64 x.kind, .int .i64 x.job, .int .i64 x.from0, .int .i64 x.until0] 40)).putObj (D + 1) (.loop r')) Wx.heap.size [.int .i64 x.kind, .int .i64 x.job, .int .i64 x.from0, .int .i64 x.until0] :=
            (Cells.new (cs := #[.int .i64 x.kind, .int .i64 x.job, .int .i64 x.from0, .int .i64 x.until0]) rfl).put (by omega)
          generalize hwb : (Wx.alloc (.cells #[.int .i64 x.kind, .int .i64 x.job, .int .i64 x.from0, .int .i64 x.until0] 40)).putObj (D + 1) (.loop r') = wb at *
          have hsb : wb.heap.size = Wx.heap.size + 1 := by rw [← hwb, World.putObj_size]; simp
          clear hwb hba hMx hLx
          generalize Wx.heap.size = XS at *
          obtain ⟨q, m, v, hDI, hRx, hOx, k4x, k5x, kmx, kux⟩ := hMb
          generalize hS : updS (updS (updS s' (some 32) (Value.agg #[.int .i64 x.kind, .int .i64 x.job, .int .i64 x.from0, .int .i64 x.until0])) (some 9) (.pointer (some ⟨XS, 0, none⟩))) none undef = s2
          have t4 : s2 4 = .pointer (some ⟨w.heap.size + 1, 0, none⟩) := by rw [← hS]; simp [sl4]
          have t9 : s2 9 = .pointer (some ⟨XS, 0, none⟩) := by rw [← hS]; simp
          clear hS
          refine wpIn_block ?_
          have hll : pre.length + 1 ≤ 5000 := by have := hDI.len; simp at this; omega
          have x0 := k4x.cell 0 rfl
          have x1 := kS.cell 0 rfl
          have x2 := kS.cell 1 rfl
          have x3 := kS.cell 2 rfl
          have x4 := kS.cell 3 rfl
          have y0 := k4x.1
          have y1 := kS.1
          refine region_FI (ρ := some (D + 1)) ?_ ?_
          · rfl
          repeat (first | ((first | (refine listF_step rfl (fun K' hK => ?_)) | (refine listF_yes rfl rfl (by decide) ?_ (fun K' hK => ?_); (focus (go_simp; done)))); unfold opF; go_simp; (refine hK _ _ ?_); clear hK K') | (refine listF_no (b' := true) rfl rfl (by decide) ?_ ?_ ?_; (focus (go_simp; done)); (focus rfl)) | (refine listF_no (b' := false) rfl rfl (by decide) ?_ ?_ ?_; (focus (go_simp; done)); (focus rfl)) | (refine listF_nu rfl rfl (by decide) ?_ ?_; (focus (go_simp; done))) | (refine listF_nil ?_) | (refine region_F ?_) | (refine cond_F true ?_ ?_; (focus (go_simp; done)); simp only [if_true]) | (refine cond_F false ?_ ?_; (focus (go_simp; done)); simp only [Bool.false_eq_true, if_false]) | (with_reducible go_step))
          refine listF_absw ?_
          intro wc hwc
          have hbc : Below wb.heap.size wb wc := by rw [hwc]; exact (Below.refl _ _).alloc (Nat.le_refl _) _
          have kX : Cells wc (XS + 1) [.int .i64 x.kind, .int .i64 x.job, .int .i64 x.from0, .int .i64 x.until0] := by rw [hwc]; exact Cells.new (cs := #[.int .i64 x.kind, .int .i64 x.job, .int .i64 x.from0, .int .i64 x.until0]) hsb
          have hOc : OwnSpells (D + 2) wc v pre := Own.at hOx hbc
          have hRc := hRx.at hbc
          replace k4x := k4x.at hbc
          replace k5x := k5x.at hbc
          replace kmx := kmx.at hbc
          replace kux := kux.at hbc
          have hLc := hLb.at hbc
          have hsc := hbc.size
          clear hwc hbc hOx hRx hLb x0 x1 x2 x3 x4 y1 kS
          have hvb : ∀ k, v.ownBlock = some k → D + 2 ≤ k := fun k hk => (World.ownsRow.lt hOc k hk).1
          refine listF_step rfl (fun K' hK => ?_)
          refine opF_of_wp (d := 36) rfl (by decide) (fun K1 Q1 hK1 => wp_append_own _ _ _ 44 rfl (D + 2) 40 i0 _ 4 32 Try.underlying44 hi0 hz0 hz1 hz2 rfl (by decide) v pre.length (pre.flatMap Spell.cs) (by rw [mkA_eval]; go_simp) hOc ⟨XS + 1, 0, none⟩ 1 1 x.cs (by rw [mkA_eval]; go_simp) rfl kX.news (spell_one x) (by unfold maxLen; omega) (by omega) (by omega) (fun v5 w6 ho5 hg5 _ => hK1 _ _ (hK _ _ ?_)))
          clear hK hK1
          obtain ⟨g5, cap5, rfl⟩ := own_pos' ho5 (by omega)
          have hgb : GB v wc w6 := GB.of_grown (Below.refl _ _) hg5
          have h4 := hgb.cells k4x (fun e => by have := hvb _ e.symm; omega)
          have h5 := hgb.cells k5x (fun e => by have := hvb _ e.symm; omega)
          have hm := hgb.cells kmx (fun e => by have := hvb _ e.symm; omega)
          have hu := hgb.cells kux (fun e => by have := hvb _ e.symm; omega)
          have hlow : Below w.heap.size wc w6 := hgb.low (by have := hRc.bel.size; omega) (fun k hk => by have := hvb k hk; omega)
          have hR6 : RoomOf w.heap.size w w6 R g W q aj af cj cf c0 := hRc.same (hRc.bel.trans hlow) (hgb.block R hRc.lt (fun e => by have := hvb _ e.symm; omega)) (hgb.block g hRc.glt (fun e => by have := hvb _ e.symm; omega)) hgb.size
          have hL6 : LoopAt w6 D r' := ⟨(hgb.block _ (Array.getElem?_eq_some_iff.1 hLc.1).1 (fun e => by have := hvb _ e.symm; omega)).trans hLc.1, (hgb.block _ (Array.getElem?_eq_some_iff.1 hLc.2).1 (fun e => by have := hvb _ e.symm; omega)).trans hLc.2⟩
          have hO6 : OwnSpells (D + 2) w6 (.slice (some ⟨g5, 0, none⟩) (pre.length + 1) cap5) (pre ++ [x]) := by unfold OwnSpells Own; simpa using ho5
          have z0 := h4.cell 0 rfl
          have zz := h4.2.2
          have zs := h4.1
          clear ho5 hg5 hgb hlow
          repeat (first | ((first | (refine listF_step rfl (fun K' hK => ?_)) | (refine listF_yes rfl rfl (by decide) ?_ (fun K' hK => ?_); (focus (go_simp; done)))); unfold opF; go_simp; (refine hK _ _ ?_); clear hK K') | (refine listF_no (b' := true) rfl rfl (by decide) ?_ ?_ ?_; (focus (go_simp; done)); (focus rfl)) | (refine listF_no (b' := false) rfl rfl (by decide) ?_ ?_ ?_; (focus (go_simp; done)); (focus rfl)) | (refine listF_nu rfl rfl (by decide) ?_ ?_; (focus (go_simp; done))) | (refine listF_nil ?_) | (refine region_F ?_) | (refine cond_F true ?_ ?_; (focus (go_simp; done)); simp only [if_true]) | (refine cond_F false ?_ ?_; (focus (go_simp; done)); simp only [Bool.false_eq_true, if_false]) | (with_reducible go_step))
          have hvb5 : ∀ k, (Value.slice (some ⟨g5, 0, none⟩) (pre.length + 1) cap5).ownBlock = some k → D + 2 ≤ k := fun k hk => (World.ownsRow.lt hO6 k hk).1
          refine ⟨trivial, ⟨q, m, _, hDI, hR6.setFar (by omega) (by omega) (by omega), hO6.kept (fun k hk => Below.heap_setCell _ _ _ _ (fun e => by have := hvb5 k hk; simp at e; omega)), h4.set (i := 0) (u := .slice (some ⟨g5, 0, none⟩) (pre.length + 1) cap5), h5.setFar (by omega), hm.setFar (by omega), hu.setFar (by omega)⟩, ?_⟩
          exact ⟨(Below.heap_setCell _ _ _ _ (fun e => by simp at e; omega)).trans hL6.1, (Below.heap_setCell _ _ _ _ (fun e => by simp at e; omega)).trans hL6.2⟩
        case hdone =>
          intro xs Wx hJx hF hDx
          rw [hDD] at hDx ⊢
          obtain ⟨q, m, v, hDI, hRx, hOx, k4x, k5x, kmx, kux⟩ := hJx
          exact hfin s' Wx xs q v (some ⟨g, 0, none⟩) c0 sl4 sl5 sl8 (hid (day_of hdE.out hDI hF)) k4x k5x hRx.cells hOx hRx.rd (fun b hb => by cases hb; exact ⟨hg0, by show g ≠ D; omega, by show g ≠ R; omega⟩) hRx.bel hDx
      · have h0 : W.jobs = [] := List.length_eq_zero_iff.1 (by omega)
        have hbj : begJobs W = [] := by rw [begJobs_ok He.out]; simp [beginQ, h0]
        rw [hbj] at kR
        have hbq : (beginQ W).jobs = [] := by simp [beginQ, h0]
        refine wp_range_j (enc := fun x : Spell => .agg #[.int .i64 x.kind, .int .i64 x.job, .int .i64 x.from0, .int .i64 x.until0]) (gf := 70) (lb := #[.pointer (some ⟨R + 1, 0, none⟩), .pointer (some ⟨R + 1 + 1, 0, none⟩)]) ?hg ?eg rfl
          (fun pre wr => pre = [] ∧ Cells wr (w.heap.size + 1) [.slice none 0 0] ∧ Cells wr (w.heap.size + 1 + 1) [.int .i64 0, .slice none 0 0] ∧ Cells wr R [.int .i64 W.rules.slice, .int .i64 W.rules.load, .int .i64 W.rules.dump, .int .i64 W.rules.patience, .int .i64 W.rules.rate, .slice aj W.jobs.length cj, .slice af W.faults.length cf, .int .i64 0, .slice a0 0 c0] ∧
            Cells wr (R + 1) [.pointer (some ⟨R, 0, none⟩)] ∧ Cells wr (R + 1 + 1) [.int .i64 till] ∧ Below w.heap.size w wr)
          (fun pre x wr => False) (fun xs => True) ?hJ ?h0 ?hiter ?hround ?hdone
        case hg => rw [mkA_eval]; go_simp
        case eg => intro args w; rfl
        case hJ =>
          rintro pre Wx r r' ⟨h1, h2, h3, h4, h5, h6, h7⟩ _
          exact ⟨h1, h2.put (by omega), h3.put (by omega), h4.put (by omega), h5.put (by omega), h6.put (by omega), bel_put h7 (by omega)⟩
        case h0 =>
          intro r
          have hb : Below w5.heap.size w5 ((w5.alloc (.deferred (some []))).alloc (.loop r)) := ((Below.refl _ _).alloc (Nat.le_refl _) _).alloc (by simp) _
          exact ⟨rfl, k4.at hb, k5.at hb, kR.at hb, km.at hb, ku.at hb, HB5.out.trans (hb.mono HB5.out.size)⟩
        case hiter =>
          rintro r Wx ⟨_, h2, h3, h4, h5, h6, h7⟩ hLx _
          refine (spells1_none R (R + 1) (R + 1 + 1) w5.heap.size till 0 a0 c0 Wx (h4.cell 7 rfl) (h4.cell 8 rfl) h4.1 h5 h6).mono ?_
          rintro e W' ⟨hv, hb⟩
          exact ⟨hv, [], ⟨rfl, h2.at hb, h3.at hb, h4.at hb, h5.at hb, h6.at hb, h7.trans (hb.mono h7.size)⟩, trivial, hLx.at hb⟩
        case hround => intro pre x Wx r hMx; exact hMx.elim
        case hdone =>
          rintro xs Wx ⟨rfl, h2, h3, h4, h5, h6, h7⟩ _ hDx
          rw [hDD] at hDx ⊢
          have hl0 : (beginQ W).jobs.length = 0 := by rw [hbq]; rfl
          refine hfin s' Wx [] (beginQ W) (.slice none 0 0) a0 c0 sl4 sl5 sl8 (hid ?_) h2 h3 (by rw [hl0]; exact h4) (Own.nil _ _ _ _ _) (.inl hbq) (fun b hb => ⟨Hfr.out b hb, by have := hgB.out b hb; omega, by have := hgB.out b hb; omega⟩) h7 hDx
          unfold day
          rw [if_pos hdE.out, day_stop (by rw [hbq]; simp [waits])]
    · skip
      have hdE := hid (show dayErr W till = 7 by unfold dayErr; rw [if_pos He.out, if_neg (by simp [hin])])
      have Hday := hid (show day W till = ([], Qu.zero) by unfold day; rw [hdE.out]; rfl)
      repeat (first | ((first | (refine listF_step rfl (fun K' hK => ?_)) | (refine listF_yes rfl rfl (by decide) ?_ (fun K' hK => ?_); (focus (go_simp; done)))); unfold opF; go_simp; (first | (refine hK _ _ ?_) | ((go_at_call 46; refine (qout_any _ _ _ _).mono ?_; rintro e w' ⟨rfl, rfl⟩); refine ⟨_, rfl, hK _ _ ?_⟩)); clear hK K') | (refine listF_no (b' := true) rfl rfl (by decide) ?_ ?_ ?_; (focus (go_simp; done)); (focus rfl)) | (refine listF_no (b' := false) rfl rfl (by decide) ?_ ?_ ?_; (focus (go_simp; done)); (focus rfl)) | (refine listF_nu rfl rfl (by decide) ?_ ?_; (focus (go_simp; done))) | (refine listF_nil ?_) | (refine region_F ?_) | (refine cond_F true ?_ ?_; (focus (go_simp; done)); simp only [if_true]) | (refine cond_F false ?_ ?_; (focus (go_simp; done)); simp only [Bool.false_eq_true, if_false]) | (with_reducible go_step))
      (refine wp_abs ?_; intro s' hs'; have gl4 := congrFun hs' 4; simp only [updS_some, updS_none, Nat.reduceEqDiff, ↓reduceIte] at gl4; (try rw [sl4] at gl4); have gl5 := congrFun hs' 5; simp only [updS_some, updS_none, Nat.reduceEqDiff, ↓reduceIte] at gl5; (try rw [sl5] at gl5); clear hs'; (try clear sl4); (try clear sl5); have sl4 := gl4; clear gl4; have sl5 := gl5; clear gl5)
      refine regionR_F [(w.heap.size + 1), (w.heap.size + 1 + 1)] [[.slice none 0 0], [.int .i64 0, .slice none 0 0]] [4, 5] [.q [5], .st 4, .st 5] [?v2_0, fun _ => undef, fun _ => undef] [fun _ => [], ?c2_1, ?c2_2] (by kernel_rfl) (by kernel_rfl) (by kernel_rfl) (by kernel_rfl) (by kernel_rfl) (by first | exact List.nodup_nil | exact List.nodup_singleton _ | (simp; done) | (simp; omega)) (bc_cons (by repeat (first | (with_reducible exact k4) | (with_reducible refine Cells.drew ?_) | (with_reducible refine Cells.up ?_ _) | (with_reducible refine Cells.setFar ?_ (by omega)))) (bc_cons (by repeat (first | (with_reducible exact k5) | (with_reducible refine Cells.drew ?_) | (with_reducible refine Cells.up ?_ _) | (with_reducible refine Cells.setFar ?_ (by omega)))) bc_nil)) ?walk2 ?dep2
      case' walk2 =>
        refine walkR_q (by rfl) (fun X hX wq hwq hrq => ?_) ?_
        · obtain ⟨hcq, hfq⟩ := hwq.b2
          have kq5 := hrq 5 (by simp)
          rw [show X 5 = (w.heap.size + 1 + 1) from hX.at0 1 _ rfl] at kq5
          replace kq5 : Cells wq (w.heap.size + 1 + 1) [.int .i64 0, .slice none 0 0] := kq5
          have kqs5 := kq5.1
          have kq5_0 := kq5.cell 0 rfl
          have kq5_1 := kq5.cell 1 rfl
          clear hrq
          go_simp
          (first | rfl | exact ⟨rfl, rfl⟩)
        refine walkR_st (by rfl) (fun X hX wq hwq hkq => ?_) ?_
        · rw [show X 4 = (w.heap.size + 1) from hX.at0 0 _ rfl] at hkq ⊢
          replace hkq : Cells wq (w.heap.size + 1) [.slice none 0 0] := hkq
          have hks := hkq.1
          have hkz := hkq.2.2
          have hk0 := hkq.cell 0 rfl
          go_simp
          (first | ((with_reducible refine writeB_mk (Cells.set hkq) ?_ ?_); (focus (repeat (first | (with_reducible exact Only.refl _ _) | (with_reducible refine Only.set ?_)))); rfl) | ((with_reducible refine writeB_mk (Cells.set (Cells.set hkq)) ?_ ?_); (focus (repeat (first | (with_reducible exact Only.refl _ _) | (with_reducible refine Only.set ?_)))); rfl) | ((with_reducible refine writeB_mk (Cells.set (Cells.set (Cells.set hkq))) ?_ ?_); (focus (repeat (first | (with_reducible exact Only.refl _ _) | (with_reducible refine Only.set ?_)))); rfl) | ((with_reducible refine writeB_mk (Cells.set (Cells.set (Cells.set (Cells.set hkq)))) ?_ ?_); (focus (repeat (first | (with_reducible exact Only.refl _ _) | (with_reducible refine Only.set ?_)))); rfl) | ((with_reducible refine writeB_mk (Cells.set (Cells.set (Cells.set (Cells.set (Cells.set hkq))))) ?_ ?_); (focus (repeat (first | (with_reducible exact Only.refl _ _) | (with_reducible refine Only.set ?_)))); rfl) | ((with_reducible refine writeB_mk (Cells.set (Cells.set (Cells.set (Cells.set (Cells.set (Cells.set hkq)))))) ?_ ?_); (focus (repeat (first | (with_reducible exact Only.refl _ _) | (with_reducible refine Only.set ?_)))); rfl) | ((with_reducible refine writeB_mk (Cells.set (Cells.set (Cells.set (Cells.set (Cells.set (Cells.set (Cells.set hkq))))))) ?_ ?_); (focus (repeat (first | (with_reducible exact Only.refl _ _) | (with_reducible refine Only.set ?_)))); rfl) | ((with_reducible refine writeB_mk (Cells.set (Cells.set (Cells.set (Cells.set (Cells.set (Cells.set (Cells.set (Cells.set hkq)))))))) ?_ ?_); (focus (repeat (first | (with_reducible exact Only.refl _ _) | (with_reducible refine Only.set ?_)))); rfl))
        refine walkR_st (by rfl) (fun X hX wq hwq hkq => ?_) ?_
        · rw [show X 5 = (w.heap.size + 1 + 1) from hX.at0 1 _ rfl] at hkq ⊢
          replace hkq : Cells wq (w.heap.size + 1 + 1) [.int .i64 0, .slice none 0 0] := hkq
          have hks := hkq.1
          have hkz := hkq.2.2
          have hk0 := hkq.cell 0 rfl
          have hk1 := hkq.cell 1 rfl
          go_simp
          (first | ((with_reducible refine writeB_mk (Cells.set hkq) ?_ ?_); (focus (repeat (first | (with_reducible exact Only.refl _ _) | (with_reducible refine Only.set ?_)))); rfl) | ((with_reducible refine writeB_mk (Cells.set (Cells.set hkq)) ?_ ?_); (focus (repeat (first | (with_reducible exact Only.refl _ _) | (with_reducible refine Only.set ?_)))); rfl) | ((with_reducible refine writeB_mk (Cells.set (Cells.set (Cells.set hkq))) ?_ ?_); (focus (repeat (first | (with_reducible exact Only.refl _ _) | (with_reducible refine Only.set ?_)))); rfl) | ((with_reducible refine writeB_mk (Cells.set (Cells.set (Cells.set (Cells.set hkq)))) ?_ ?_); (focus (repeat (first | (with_reducible exact Only.refl _ _) | (with_reducible refine Only.set ?_)))); rfl) | ((with_reducible refine writeB_mk (Cells.set (Cells.set (Cells.set (Cells.set (Cells.set hkq))))) ?_ ?_); (focus (repeat (first | (with_reducible exact Only.refl _ _) | (with_reducible refine Only.set ?_)))); rfl) | ((with_reducible refine writeB_mk (Cells.set (Cells.set (Cells.set (Cells.set (Cells.set (Cells.set hkq)))))) ?_ ?_); (focus (repeat (first | (with_reducible exact Only.refl _ _) | (with_reducible refine Only.set ?_)))); rfl) | ((with_reducible refine writeB_mk (Cells.set (Cells.set (Cells.set (Cells.set (Cells.set (Cells.set (Cells.set hkq))))))) ?_ ?_); (focus (repeat (first | (with_reducible exact Only.refl _ _) | (with_reducible refine Only.set ?_)))); rfl) | ((with_reducible refine writeB_mk (Cells.set (Cells.set (Cells.set (Cells.set (Cells.set (Cells.set (Cells.set (Cells.set hkq)))))))) ?_ ?_); (focus (repeat (first | (with_reducible exact Only.refl _ _) | (with_reducible refine Only.set ?_)))); rfl))
        refine walkR_nil (fun X hX wz hwz hcz => ?_)
        have kz0 := hcz 4 (by simp)
        rw [show X 4 = (w.heap.size + 1) from hX.at0 0 _ rfl] at kz0
        simp only [updC_some, updC_none, Nat.reduceEqDiff, ↓reduceIte] at kz0
        have kz1 := hcz 5 (by simp)
        rw [show X 5 = (w.heap.size + 1 + 1) from hX.at0 1 _ rfl] at kz1
        simp only [updC_some, updC_none, Nat.reduceEqDiff, ↓reduceIte] at kz1
        clear hX hcz
        (try clear X)
      case dep2 =>
        refine depR_cons (fun X X' h => ?_) ?_
        · (first | exact ⟨rfl, rfl⟩)
        refine depR_cons (fun X X' h => ?_) ?_
        · (first | exact ⟨rfl, rfl⟩)
        refine depR_cons (fun X X' h => ?_) ?_
        · (first | exact ⟨rfl, rfl⟩)
        exact depR_nil
      repeat (first | ((first | (refine listF_step rfl (fun K' hK => ?_)) | (refine listF_yes rfl rfl (by decide) ?_ (fun K' hK => ?_); (focus (go_simp; done)))); unfold opF; go_simp; (refine hK _ _ ?_); clear hK K') | (refine listF_no (b' := true) rfl rfl (by decide) ?_ ?_ ?_; (focus (go_simp; done)); (focus rfl)) | (refine listF_no (b' := false) rfl rfl (by decide) ?_ ?_ ?_; (focus (go_simp; done)); (focus rfl)) | (refine listF_nu rfl rfl (by decide) ?_ ?_; (focus (go_simp; done))) | (refine listF_nil ?_) | (refine region_F ?_) | (refine cond_F true ?_ ?_; (focus (go_simp; done)); simp only [if_true]) | (refine cond_F false ?_ ?_; (focus (go_simp; done)); simp only [Bool.false_eq_true, if_false]) | (with_reducible go_step))
      refine retM_F (.tuple #[.slice none 0 0, .agg #[.int .i64 0, .slice none 0 0], .int .i64 7]) (res_cct (ad := ⟨w.heap.size + 1, 0, none⟩) (ad2 := ⟨w.heap.size + 1 + 1, 0, none⟩) Try.results24 ((getD_F (by simp)).trans (by go_simp)) ((getD_F (by simp)).trans (by go_simp)) (load_spells (kz0.cell 0 rfl)) (load_qu (kz1.cell 0 rfl) (kz1.cell 1 rfl)) ((getD_F (by simp)).trans (by go_simp))) ?_
      exact ⟨none, 0, none, 0, by rw [Hday.out, hdE.out]; rfl, by rw [Hday.out]; exact .inl rfl, by rw [Hday.out]; exact .inl rfl, HB3.out.trans (hwz.low (N := w.heap.size) (by omega) (by simp; omega)), fun b hb => (by cases hb), fun b hb => (by cases hb), by rw [Hday.out]; exact Nat.le_refl _⟩
  · skip
    have he2 : (W.err != 0) = true := by simp [he]
    have hdE := hid (show dayErr W till = W.err by unfold dayErr; rw [if_neg he])
    have Hday := hid (show day W till = ([], Qu.zero) by unfold day; rw [hdE.out]; rw [if_neg he])
    clear he
    repeat (first | ((first | (refine listF_step rfl (fun K' hK => ?_)) | (refine listF_yes rfl rfl (by decide) ?_ (fun K' hK => ?_); (focus (go_simp; done)))); unfold opF; go_simp; (refine hK _ _ ?_); clear hK K') | (refine listF_no (b' := true) rfl rfl (by decide) ?_ ?_ ?_; (focus (go_simp; done)); (focus rfl)) | (refine listF_no (b' := false) rfl rfl (by decide) ?_ ?_ ?_; (focus (go_simp; done)); (focus rfl)) | (refine listF_nu rfl rfl (by decide) ?_ ?_; (focus (go_simp; done))) | (refine listF_nil ?_) | (refine region_F ?_) | (refine cond_F true ?_ ?_; (focus (go_simp; done)); simp only [if_true]) | (refine cond_F false ?_ ?_; (focus (go_simp; done)); simp only [Bool.false_eq_true, if_false]) | (with_reducible go_step))
    refine regionR_F [(w.heap.size + 1), (w.heap.size + 1 + 1)] [[.slice none 0 0], [.int .i64 0, .slice none 0 0]] [5, 6] [.q [6], .q [], .st 5, .st 6] [?v3_0, ?v3_1, fun _ => undef, fun _ => undef] [fun _ => [], fun _ => [], ?c3_2, ?c3_3] (by kernel_rfl) (by kernel_rfl) (by kernel_rfl) (by kernel_rfl) (by kernel_rfl) (by first | exact List.nodup_nil | exact List.nodup_singleton _ | (simp; done) | (simp; omega)) (bc_cons (by repeat (first | (with_reducible exact k4) | (with_reducible refine Cells.drew ?_) | (with_reducible refine Cells.up ?_ _) | (with_reducible refine Cells.setFar ?_ (by omega)))) (bc_cons (by repeat (first | (with_reducible exact k5) | (with_reducible refine Cells.drew ?_) | (with_reducible refine Cells.up ?_ _) | (with_reducible refine Cells.setFar ?_ (by omega)))) bc_nil)) ?walk3 ?dep3
    case' walk3 =>
      refine walkR_q (by rfl) (fun X hX wq hwq hrq => ?_) ?_
      · obtain ⟨hcq, hfq⟩ := hwq.b2
        have kq6 := hrq 6 (by simp)
        rw [show X 6 = (w.heap.size + 1 + 1) from hX.at0 1 _ rfl] at kq6
        replace kq6 : Cells wq (w.heap.size + 1 + 1) [.int .i64 0, .slice none 0 0] := kq6
        have kqs6 := kq6.1
        have kq6_0 := kq6.cell 0 rfl
        have kq6_1 := kq6.cell 1 rfl
        clear hrq
        go_simp
        (first | rfl | exact ⟨rfl, rfl⟩)
      refine walkR_q (by rfl) (fun X hX wq hwq hrq => ?_) ?_
      · obtain ⟨hcq, hfq⟩ := hwq.b2
        clear hrq
        go_simp
        (first | rfl | exact ⟨rfl, rfl⟩)
      refine walkR_st (by rfl) (fun X hX wq hwq hkq => ?_) ?_
      · rw [show X 5 = (w.heap.size + 1) from hX.at0 0 _ rfl] at hkq ⊢
        replace hkq : Cells wq (w.heap.size + 1) [.slice none 0 0] := hkq
        have hks := hkq.1
        have hkz := hkq.2.2
        have hk0 := hkq.cell 0 rfl
        go_simp
        (first | ((with_reducible refine writeB_mk (Cells.set hkq) ?_ ?_); (focus (repeat (first | (with_reducible exact Only.refl _ _) | (with_reducible refine Only.set ?_)))); rfl) | ((with_reducible refine writeB_mk (Cells.set (Cells.set hkq)) ?_ ?_); (focus (repeat (first | (with_reducible exact Only.refl _ _) | (with_reducible refine Only.set ?_)))); rfl) | ((with_reducible refine writeB_mk (Cells.set (Cells.set (Cells.set hkq))) ?_ ?_); (focus (repeat (first | (with_reducible exact Only.refl _ _) | (with_reducible refine Only.set ?_)))); rfl) | ((with_reducible refine writeB_mk (Cells.set (Cells.set (Cells.set (Cells.set hkq)))) ?_ ?_); (focus (repeat (first | (with_reducible exact Only.refl _ _) | (with_reducible refine Only.set ?_)))); rfl) | ((with_reducible refine writeB_mk (Cells.set (Cells.set (Cells.set (Cells.set (Cells.set hkq))))) ?_ ?_); (focus (repeat (first | (with_reducible exact Only.refl _ _) | (with_reducible refine Only.set ?_)))); rfl) | ((with_reducible refine writeB_mk (Cells.set (Cells.set (Cells.set (Cells.set (Cells.set (Cells.set hkq)))))) ?_ ?_); (focus (repeat (first | (with_reducible exact Only.refl _ _) | (with_reducible refine Only.set ?_)))); rfl) | ((with_reducible refine writeB_mk (Cells.set (Cells.set (Cells.set (Cells.set (Cells.set (Cells.set (Cells.set hkq))))))) ?_ ?_); (focus (repeat (first | (with_reducible exact Only.refl _ _) | (with_reducible refine Only.set ?_)))); rfl) | ((with_reducible refine writeB_mk (Cells.set (Cells.set (Cells.set (Cells.set (Cells.set (Cells.set (Cells.set (Cells.set hkq)))))))) ?_ ?_); (focus (repeat (first | (with_reducible exact Only.refl _ _) | (with_reducible refine Only.set ?_)))); rfl))
      refine walkR_st (by rfl) (fun X hX wq hwq hkq => ?_) ?_
      · rw [show X 6 = (w.heap.size + 1 + 1) from hX.at0 1 _ rfl] at hkq ⊢
        replace hkq : Cells wq (w.heap.size + 1 + 1) [.int .i64 0, .slice none 0 0] := hkq
        have hks := hkq.1
        have hkz := hkq.2.2
        have hk0 := hkq.cell 0 rfl
        have hk1 := hkq.cell 1 rfl
        go_simp
        (first | ((with_reducible refine writeB_mk (Cells.set hkq) ?_ ?_); (focus (repeat (first | (with_reducible exact Only.refl _ _) | (with_reducible refine Only.set ?_)))); rfl) | ((with_reducible refine writeB_mk (Cells.set (Cells.set hkq)) ?_ ?_); (focus (repeat (first | (with_reducible exact Only.refl _ _) | (with_reducible refine Only.set ?_)))); rfl) | ((with_reducible refine writeB_mk (Cells.set (Cells.set (Cells.set hkq))) ?_ ?_); (focus (repeat (first | (with_reducible exact Only.refl _ _) | (with_reducible refine Only.set ?_)))); rfl) | ((with_reducible refine writeB_mk (Cells.set (Cells.set (Cells.set (Cells.set hkq)))) ?_ ?_); (focus (repeat (first | (with_reducible exact Only.refl _ _) | (with_reducible refine Only.set ?_)))); rfl) | ((with_reducible refine writeB_mk (Cells.set (Cells.set (Cells.set (Cells.set (Cells.set hkq))))) ?_ ?_); (focus (repeat (first | (with_reducible exact Only.refl _ _) | (with_reducible refine Only.set ?_)))); rfl) | ((with_reducible refine writeB_mk (Cells.set (Cells.set (Cells.set (Cells.set (Cells.set (Cells.set hkq)))))) ?_ ?_); (focus (repeat (first | (with_reducible exact Only.refl _ _) | (with_reducible refine Only.set ?_)))); rfl) | ((with_reducible refine writeB_mk (Cells.set (Cells.set (Cells.set (Cells.set (Cells.set (Cells.set (Cells.set hkq))))))) ?_ ?_); (focus (repeat (first | (with_reducible exact Only.refl _ _) | (with_reducible refine Only.set ?_)))); rfl) | ((with_reducible refine writeB_mk (Cells.set (Cells.set (Cells.set (Cells.set (Cells.set (Cells.set (Cells.set (Cells.set hkq)))))))) ?_ ?_); (focus (repeat (first | (with_reducible exact Only.refl _ _) | (with_reducible refine Only.set ?_)))); rfl))
      refine walkR_nil (fun X hX wz hwz hcz => ?_)
      have kz0 := hcz 5 (by simp)
      rw [show X 5 = (w.heap.size + 1) from hX.at0 0 _ rfl] at kz0
      simp only [updC_some, updC_none, Nat.reduceEqDiff, ↓reduceIte] at kz0
      have kz1 := hcz 6 (by simp)
      rw [show X 6 = (w.heap.size + 1 + 1) from hX.at0 1 _ rfl] at kz1
      simp only [updC_some, updC_none, Nat.reduceEqDiff, ↓reduceIte] at kz1
      clear hX hcz
      (try clear X)
    case dep3 =>
      refine depR_cons (fun X X' h => ?_) ?_
      · (first | exact ⟨rfl, rfl⟩)
      refine depR_cons (fun X X' h => ?_) ?_
      · (first | exact ⟨rfl, rfl⟩)
      refine depR_cons (fun X X' h => ?_) ?_
      · (first | exact ⟨rfl, rfl⟩)
      refine depR_cons (fun X X' h => ?_) ?_
      · (first | exact ⟨rfl, rfl⟩)
      exact depR_nil
    repeat (first | ((first | (refine listF_step rfl (fun K' hK => ?_)) | (refine listF_yes rfl rfl (by decide) ?_ (fun K' hK => ?_); (focus (go_simp; done)))); unfold opF; go_simp; (refine hK _ _ ?_); clear hK K') | (refine listF_no (b' := true) rfl rfl (by decide) ?_ ?_ ?_; (focus (go_simp; done)); (focus rfl)) | (refine listF_no (b' := false) rfl rfl (by decide) ?_ ?_ ?_; (focus (go_simp; done)); (focus rfl)) | (refine listF_nu rfl rfl (by decide) ?_ ?_; (focus (go_simp; done))) | (refine listF_nil ?_) | (refine region_F ?_) | (refine cond_F true ?_ ?_; (focus (go_simp; done)); simp only [if_true]) | (refine cond_F false ?_ ?_; (focus (go_simp; done)); simp only [Bool.false_eq_true, if_false]) | (with_reducible go_step))
    refine retM_F (.tuple #[.slice none 0 0, .agg #[.int .i64 0, .slice none 0 0], .int .i64 W.err]) (res_cct (ad := ⟨w.heap.size + 1, 0, none⟩) (ad2 := ⟨w.heap.size + 1 + 1, 0, none⟩) Try.results24 ((getD_F (by simp)).trans (by go_simp)) ((getD_F (by simp)).trans (by go_simp)) (load_spells (kz0.cell 0 rfl)) (load_qu (kz1.cell 0 rfl) (kz1.cell 1 rfl)) ((getD_F (by simp)).trans (by go_simp))) ?_
    exact ⟨none, 0, none, 0, by rw [Hday.out, hdE.out]; rfl, by rw [Hday.out]; exact .inl rfl, by rw [Hday.out]; exact .inl rfl, HB3.out.trans (hwz.low (N := w.heap.size) (by omega) (by simp; omega)), fun b hb => (by cases hb), fun b hb => (by cases hb), by rw [Hday.out]; exact Nat.le_refl _⟩

theorem qDay_any (W : Work) (till : Int) (aj af : Option Addr) (cj cf : Nat) (w : World) (hW : WorkIn w W aj af) :
    Calls Try.prog 24 #[.agg #[.int .i64 W.rules.slice, .int .i64 W.rules.load, .int .i64 W.rules.dump, .int .i64 W.rules.patience, .int .i64 W.rules.rate, .slice aj W.jobs.length cj, .slice af W.faults.length cf], .int .i64 till] w (DayRes W till w) :=
  (qDay_cap W till aj af cj cf w hW).mono fun _ _ ⟨a, c, a', c', h1, h2, h3, h4, h5, h6, _⟩ => ⟨a, c, a', c', h1, h2, h3, h4, h5, h6⟩

end Go.Proofs.Ytbjgebbfachgfaa
